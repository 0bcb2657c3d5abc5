/-
  mac: a token by its parts; a token may do just what it has the right to. Conditions: none.
-/
import Derived.Test.YtbdffcgbleiiaaaMac5
namespace Go.Proofs.Ytbdffcgbleiiaaa
open Go.RowKit Go.Sx Go.Sha Go.Pk
set_option linter.unusedVariables false
set_option linter.unusedSimpArgs false

def u64n (x : Int) : Nat := (IntKind.u64.wrap x).toNat
theorem u64n_eq (x : Int) : IntKind.u64.wrap x = ((u64n x : Nat) : Int) := by
  unfold u64n
  simp [IntKind.wrap, IntKind.bits, IntKind.signed]
  omega
def ptk (p : Tk) (own : Bool) : Tk := if own then ⟨((1 + u64n p.tn % 8 : Nat) : Int), ⟨#[98]⟩ ++ p.bk.extract 0 (min p.bk.size 4), ((1 + u64n p.rt % 3 : Nat) : Int), p.un % 50⟩ else p
theorem ext_size (b : ByteArray) : (b.extract 0 (min b.size 4)).size ≤ 4 := by rw [ByteArray.size_extract]; omega
set_option maxRecDepth 100000 in
theorem ptoken_c (p : Tk) (own : Bool) (w : World) : Calls Try.prog 42 #[.agg #[.int .i64 p.tn, .string p.bk, .int .i64 p.rt, .int .u64 (p.un : Int), .bool own]] w fun e w' => e = .returned (ptk p own).v ∧ Below w.heap.size w w' := by
  refine calls_pure 37 _ Try.func42 rfl Try.ntmps42 Try.results42 [.agg [.v (.int .i64 p.tn), .v (.string p.bk), .v (.int .i64 p.rt), .v (.int .u64 (p.un : Int)), .v (.bool own)]] (by simp) (fun _ => rfl) ?_
  cases own
  · simp only [go_sem, ↓reduceIte, Nat.reduceEqDiff, Nat.reduceLT, Nat.reduceLeDiff, Nat.reduceAdd, Nat.reduceMul, Nat.reduceSub, Nat.reduceDiv, Nat.reduceMod, Int.reduceToNat, Int.reduceLT, Int.reduceLE, Int.reduceAdd, Int.reduceSub, Int.reduceMul, Int.reduceEq, Int.reduceNeg, reduceCtorEq, or_false, false_or, decide_true, decide_false, Int.cast_ofNat_Int, Nat.zero_add, Nat.add_zero, Int.toNat_natCast, Option.isNone_none, Option.isNone_some, Bool.not_true, Bool.not_false, Bool.xor_true, Bool.xor_false, Bool.true_xor, Bool.false_xor, decide_true, decide_false, Bool.and_true, Bool.true_and, Bool.and_false, Bool.false_and, eq_self, ne_eq, not_false_eq_true, not_true_eq_false, true_and, and_true, and_self]
    exact fun ρ a w hs _ => ⟨rfl, hs.grown⟩
  · have e1 := u64n_eq p.tn
    have e2 := u64n_eq p.rt
    have m1 : ((u64n p.tn : Nat) : Int).tmod 8 = ((u64n p.tn % 8 : Nat) : Int) := rfl
    have m2 : ((u64n p.rt : Nat) : Int).tmod 3 = ((u64n p.rt % 3 : Nat) : Int) := rfl
    have m3 : ((p.un : Nat) : Int).tmod 50 = ((p.un % 50 : Nat) : Int) := rfl
    have a1 : (1 : Int) + ((u64n p.tn % 8 : Nat) : Int) = ((1 + u64n p.tn % 8 : Nat) : Int) := by omega
    have a2 : (1 : Int) + ((u64n p.rt % 3 : Nat) : Int) = ((1 + u64n p.rt % 3 : Nat) : Int) := by omega
    have hmin : min (p.bk.size : Int) 4 = ((min p.bk.size 4 : Nat) : Int) := by omega
    have hle := ext_size p.bk
    have h1 : (⟨#[98]⟩ : ByteArray).size = 1 := rfl
    have hadd : (⟨#[98]⟩ : ByteArray).size + (p.bk.extract 0 (min p.bk.size 4)).size ≤ 9223372036854775807 := by omega
    simp only [go_sem, ↓reduceIte, Nat.reduceEqDiff, Nat.reduceLT, Nat.reduceLeDiff, Nat.reduceAdd, Nat.reduceMul, Nat.reduceSub, Nat.reduceDiv, Nat.reduceMod, Int.reduceToNat, Int.reduceLT, Int.reduceLE, Int.reduceAdd, Int.reduceSub, Int.reduceMul, Int.reduceEq, Int.reduceNeg, reduceCtorEq, or_false, false_or, decide_true, decide_false, Int.cast_ofNat_Int, Nat.zero_add, Nat.add_zero, Int.toNat_natCast, Option.isNone_none, Option.isNone_some, Bool.not_true, Bool.not_false, Bool.xor_true, Bool.xor_false, Bool.true_xor, Bool.false_xor, decide_true, decide_false, Bool.and_true, Bool.true_and, Bool.and_false, Bool.false_and, eq_self, ne_eq, not_false_eq_true, not_true_eq_false, true_and, and_true, and_self]
    refine sdraw [.t 0, .t 1, .t 2, .t 3, .t 4, .t 5, .t 6, .t 7, .t 8, .t 9, .t 10, .t 11, .t 12, .t 13, .t 14, .t 15, .t 16, .t 17, .t 18, .t 19, .t 20, .t 21, .t 22, .t 23, .t 24, .t 25, .t 26, .t 27, .t 28, .r 29] 29 [(0, _)] rfl (by kernel_rfl) ⟨rfl, trivial⟩ ?_
    simp (disch := omega) only [go_sem, ↓reduceIte, Nat.reduceEqDiff, Nat.reduceLT, Nat.reduceLeDiff, Nat.reduceAdd, Nat.reduceMul, Nat.reduceSub, Nat.reduceDiv, Nat.reduceMod, Int.reduceToNat, Int.reduceLT, Int.reduceLE, Int.reduceAdd, Int.reduceSub, Int.reduceMul, Int.reduceEq, Int.reduceNeg, reduceCtorEq, or_false, false_or, decide_true, decide_false, Int.cast_ofNat_Int, Nat.zero_add, Nat.add_zero, Int.toNat_natCast, Option.isNone_none, Option.isNone_some, Bool.not_true, Bool.not_false, Bool.xor_true, Bool.xor_false, Bool.true_xor, Bool.false_xor, decide_true, decide_false, Bool.and_true, Bool.true_and, Bool.and_false, Bool.false_and, eq_self, ne_eq, not_false_eq_true, not_true_eq_false, true_and, and_true, and_self, wrapI64, wrapu64, wrapu32, wrapu8, ltT, ltF, leT, leF, eqF, eqT, nltT, nleT, neqFn, e1, e2, m1, m2, m3, a1, a2, hmin]
    exact ⟨hadd, fun ρ a w hs _ => ⟨rfl, hs.grown⟩⟩
theorem ptoken_s {C : Cx} {fr : List (Nat × SV)} {hp : List (Nat × Blk)} {nx : Nat} {d : Option Tmp} {K : St → Prop} {p : Tk} {own : Bool} (h : dOk C.N d ∧ kput K ⟨fr, hp, nx⟩ d (.agg (ptk p own).c)) : SCall Try.prog C 42 [.agg [.v (.int .i64 p.tn), .v (.string p.bk), .v (.int .i64 p.rt), .v (.int .u64 (p.un : Int)), .v (.bool own)]] d K ⟨fr, hp, nx⟩ :=
  scall_pure [.agg #[.int .i64 p.tn, .string p.bk, .int .i64 p.rt, .int .u64 (p.un : Int), .bool own]] _ (ptk p own).v Try.call42 (ptoken_c p own) rfl (fun _ => rfl) (fun _ => rfl) h
theorem may_own {t : Tk} {r : Int} : mayB t t.tn t.bk r = ((decide (r = 1) || decide (r = 2)) && !decide (ibit .and .i64 t.rt r = 0)) := by
  unfold mayB; rw [decide_eq_true rfl, decide_eq_true rfl]; rfl
theorem may_other {t : Tk} {tn r : Int} {bk : ByteArray} (h : ¬ (tn = t.tn ∧ bk = t.bk)) : mayB t tn bk r = false := by
  unfold mayB
  by_cases h1 : t.tn = tn
  · by_cases h2 : t.bk = bk
    · exact absurd ⟨h1.symm, h2.symm⟩ h
    · rw [decide_eq_false h2]; simp
  · rw [decide_eq_false h1]; rfl
theorem ptk_rt (p : Tk) : (ptk p true).rt = 1 ∨ (ptk p true).rt = 2 ∨ (ptk p true).rt = 3 := by
  have : (ptk p true).rt = ((1 + u64n p.rt % 3 : Nat) : Int) := rfl
  rw [this]; omega
set_option maxRecDepth 100000 in
set_option maxHeartbeats 4000000 in
theorem macRights_c (p : Tk) (own : Bool) (tenant : Int) (bucket : ByteArray) (w : World) : Calls Try.prog 9 #[.agg #[.int .i64 p.tn, .string p.bk, .int .i64 p.rt, .int .u64 (p.un : Int), .bool own], .int .i64 tenant, .string bucket] w fun e w' => e = .returned (.bool true) ∧ Below w.heap.size w w' := by
  refine calls_pure 101 _ Try.func9 rfl Try.ntmps9 Try.results9 [.agg [.v (.int .i64 p.tn), .v (.string p.bk), .v (.int .i64 p.rt), .v (.int .u64 (p.un : Int)), .v (.bool own)], .c (.v (.int .i64 tenant)), .c (.v (.string bucket))] (by simp) (fun _ => rfl) ?_
  simp only [go_sem, ↓reduceIte, Nat.reduceEqDiff, Nat.reduceLT, Nat.reduceLeDiff, Nat.reduceAdd, Nat.reduceMul, Nat.reduceSub, Nat.reduceDiv, Nat.reduceMod, Int.reduceToNat, Int.reduceLT, Int.reduceLE, Int.reduceAdd, Int.reduceSub, Int.reduceMul, Int.reduceEq, Int.reduceNeg, reduceCtorEq, or_false, false_or, decide_true, decide_false, Int.cast_ofNat_Int, Nat.zero_add, Nat.add_zero, Int.toNat_natCast, Option.isNone_none, Option.isNone_some, Bool.not_true, Bool.not_false, Bool.xor_true, Bool.xor_false, Bool.true_xor, Bool.false_xor, decide_true, decide_false, Bool.and_true, Bool.true_and, Bool.and_false, Bool.false_and, eq_self, ne_eq, not_false_eq_true, not_true_eq_false, true_and, and_true, and_self]
  refine scall_pure [] (.c (.v (.bool true))) (.bool true) Try.call38 ex04_c rfl (fun _ => rfl) (fun _ => rfl) ?_
  simp only [go_sem, ↓reduceIte, Nat.reduceEqDiff, Nat.reduceLT, Nat.reduceLeDiff, Nat.reduceAdd, Nat.reduceMul, Nat.reduceSub, Nat.reduceDiv, Nat.reduceMod, Int.reduceToNat, Int.reduceLT, Int.reduceLE, Int.reduceAdd, Int.reduceSub, Int.reduceMul, Int.reduceEq, Int.reduceNeg, reduceCtorEq, or_false, false_or, decide_true, decide_false, Int.cast_ofNat_Int, Nat.zero_add, Nat.add_zero, Int.toNat_natCast, Option.isNone_none, Option.isNone_some, Bool.not_true, Bool.not_false, Bool.xor_true, Bool.xor_false, Bool.true_xor, Bool.false_xor, decide_true, decide_false, Bool.and_true, Bool.true_and, Bool.and_false, Bool.false_and, eq_self, ne_eq, not_false_eq_true, not_true_eq_false, true_and, and_true, and_self]
  refine ptoken_s ?_
  have hrt := ptk_rt p
  obtain ⟨t, ht⟩ : ∃ t, ptk p true = t := ⟨_, rfl⟩
  rw [ht] at hrt ⊢
  obtain ⟨tn, bk, rt, un⟩ := t
  have hrt : rt = 1 ∨ rt = 2 ∨ rt = 3 := hrt
  have m0 : ∀ r, mayB ⟨tn, bk, rt, un⟩ tn bk r = ((decide (r = 1) || decide (r = 2)) && !decide (ibit .and .i64 rt r = 0)) := fun r => may_own
  obtain ⟨b1, h1⟩ : ∃ b, decide (tenant = tn) = b := ⟨_, rfl⟩
  obtain ⟨b2, h2⟩ : ∃ b, decide (bucket = bk) = b := ⟨_, rfl⟩
  have mo : (b1 && b2) = false → ∀ r, mayB ⟨tn, bk, rt, un⟩ tenant bucket r = false := fun h r => may_other (t := ⟨tn, bk, rt, un⟩) fun ⟨e1, e2⟩ => by
    rw [decide_eq_true e1] at h1
    rw [decide_eq_true e2] at h2
    subst h1; subst h2; cases h
  have ib : ibit .and .i64 1 1 = 1 ∧ ibit .and .i64 1 2 = 0 ∧ ibit .and .i64 2 1 = 0 ∧ ibit .and .i64 2 2 = 2 ∧ ibit .and .i64 3 1 = 1 ∧ ibit .and .i64 3 2 = 2 := by decide
  rcases hrt with rfl | rfl | rfl <;> cases b1 <;> cases b2
  all_goals
    simp only [go_sem, ↓reduceIte, Nat.reduceEqDiff, Nat.reduceLT, Nat.reduceLeDiff, Nat.reduceAdd, Nat.reduceMul, Nat.reduceSub, Nat.reduceDiv, Nat.reduceMod, Int.reduceToNat, Int.reduceLT, Int.reduceLE, Int.reduceAdd, Int.reduceSub, Int.reduceMul, Int.reduceEq, Int.reduceNeg, reduceCtorEq, or_false, false_or, decide_true, decide_false, Int.cast_ofNat_Int, Nat.zero_add, Nat.add_zero, Int.toNat_natCast, Option.isNone_none, Option.isNone_some, Bool.not_true, Bool.not_false, Bool.xor_true, Bool.xor_false, Bool.true_xor, Bool.false_xor, decide_true, decide_false, Bool.and_true, Bool.true_and, Bool.and_false, Bool.false_and, eq_self, ne_eq, not_false_eq_true, not_true_eq_false, true_and, and_true, and_self, h1, h2, Tk.c]
    refine may_s (t := ⟨tn, bk, _, un⟩) ?_
    rw [m0]
    simp only [go_sem, ↓reduceIte, Nat.reduceEqDiff, Nat.reduceLT, Nat.reduceLeDiff, Nat.reduceAdd, Nat.reduceMul, Nat.reduceSub, Nat.reduceDiv, Nat.reduceMod, Int.reduceToNat, Int.reduceLT, Int.reduceLE, Int.reduceAdd, Int.reduceSub, Int.reduceMul, Int.reduceEq, Int.reduceNeg, reduceCtorEq, or_false, false_or, decide_true, decide_false, Int.cast_ofNat_Int, Nat.zero_add, Nat.add_zero, Int.toNat_natCast, Option.isNone_none, Option.isNone_some, Bool.not_true, Bool.not_false, Bool.xor_true, Bool.xor_false, Bool.true_xor, Bool.false_xor, decide_true, decide_false, Bool.and_true, Bool.true_and, Bool.and_false, Bool.false_and, eq_self, ne_eq, not_false_eq_true, not_true_eq_false, true_and, and_true, and_self, h1, h2, Tk.c, ib, Bool.true_or, Bool.false_or, Bool.or_true, Bool.or_false]
    refine may_s (t := ⟨tn, bk, _, un⟩) ?_
    rw [m0]
    simp only [go_sem, ↓reduceIte, Nat.reduceEqDiff, Nat.reduceLT, Nat.reduceLeDiff, Nat.reduceAdd, Nat.reduceMul, Nat.reduceSub, Nat.reduceDiv, Nat.reduceMod, Int.reduceToNat, Int.reduceLT, Int.reduceLE, Int.reduceAdd, Int.reduceSub, Int.reduceMul, Int.reduceEq, Int.reduceNeg, reduceCtorEq, or_false, false_or, decide_true, decide_false, Int.cast_ofNat_Int, Nat.zero_add, Nat.add_zero, Int.toNat_natCast, Option.isNone_none, Option.isNone_some, Bool.not_true, Bool.not_false, Bool.xor_true, Bool.xor_false, Bool.true_xor, Bool.false_xor, decide_true, decide_false, Bool.and_true, Bool.true_and, Bool.and_false, Bool.false_and, eq_self, ne_eq, not_false_eq_true, not_true_eq_false, true_and, and_true, and_self, h1, h2, Tk.c, ib, Bool.true_or, Bool.false_or, Bool.or_true, Bool.or_false]
    refine may_s (t := ⟨tn, bk, _, un⟩) ?_
    rw [m0]
    simp only [go_sem, ↓reduceIte, Nat.reduceEqDiff, Nat.reduceLT, Nat.reduceLeDiff, Nat.reduceAdd, Nat.reduceMul, Nat.reduceSub, Nat.reduceDiv, Nat.reduceMod, Int.reduceToNat, Int.reduceLT, Int.reduceLE, Int.reduceAdd, Int.reduceSub, Int.reduceMul, Int.reduceEq, Int.reduceNeg, reduceCtorEq, or_false, false_or, decide_true, decide_false, Int.cast_ofNat_Int, Nat.zero_add, Nat.add_zero, Int.toNat_natCast, Option.isNone_none, Option.isNone_some, Bool.not_true, Bool.not_false, Bool.xor_true, Bool.xor_false, Bool.true_xor, Bool.false_xor, decide_true, decide_false, Bool.and_true, Bool.true_and, Bool.and_false, Bool.false_and, eq_self, ne_eq, not_false_eq_true, not_true_eq_false, true_and, and_true, and_self, h1, h2, Tk.c, ib, Bool.true_or, Bool.false_or, Bool.or_true, Bool.or_false]
    refine may_s (t := ⟨tn, bk, _, un⟩) ?_
    rw [m0]
    simp only [go_sem, ↓reduceIte, Nat.reduceEqDiff, Nat.reduceLT, Nat.reduceLeDiff, Nat.reduceAdd, Nat.reduceMul, Nat.reduceSub, Nat.reduceDiv, Nat.reduceMod, Int.reduceToNat, Int.reduceLT, Int.reduceLE, Int.reduceAdd, Int.reduceSub, Int.reduceMul, Int.reduceEq, Int.reduceNeg, reduceCtorEq, or_false, false_or, decide_true, decide_false, Int.cast_ofNat_Int, Nat.zero_add, Nat.add_zero, Int.toNat_natCast, Option.isNone_none, Option.isNone_some, Bool.not_true, Bool.not_false, Bool.xor_true, Bool.xor_false, Bool.true_xor, Bool.false_xor, decide_true, decide_false, Bool.and_true, Bool.true_and, Bool.and_false, Bool.false_and, eq_self, ne_eq, not_false_eq_true, not_true_eq_false, true_and, and_true, and_self, h1, h2, Tk.c, ib, Bool.true_or, Bool.false_or, Bool.or_true, Bool.or_false]
    try
      refine may_s (t := ⟨tn, bk, _, un⟩) ?_
      rw [mo rfl]
      simp only [go_sem, ↓reduceIte, Nat.reduceEqDiff, Nat.reduceLT, Nat.reduceLeDiff, Nat.reduceAdd, Nat.reduceMul, Nat.reduceSub, Nat.reduceDiv, Nat.reduceMod, Int.reduceToNat, Int.reduceLT, Int.reduceLE, Int.reduceAdd, Int.reduceSub, Int.reduceMul, Int.reduceEq, Int.reduceNeg, reduceCtorEq, or_false, false_or, decide_true, decide_false, Int.cast_ofNat_Int, Nat.zero_add, Nat.add_zero, Int.toNat_natCast, Option.isNone_none, Option.isNone_some, Bool.not_true, Bool.not_false, Bool.xor_true, Bool.xor_false, Bool.true_xor, Bool.false_xor, decide_true, decide_false, Bool.and_true, Bool.true_and, Bool.and_false, Bool.false_and, eq_self, ne_eq, not_false_eq_true, not_true_eq_false, true_and, and_true, and_self, h1, h2, Tk.c, ib, Bool.true_or, Bool.false_or, Bool.or_true, Bool.or_false]
      refine may_s (t := ⟨tn, bk, _, un⟩) ?_
      rw [mo rfl]
      simp only [go_sem, ↓reduceIte, Nat.reduceEqDiff, Nat.reduceLT, Nat.reduceLeDiff, Nat.reduceAdd, Nat.reduceMul, Nat.reduceSub, Nat.reduceDiv, Nat.reduceMod, Int.reduceToNat, Int.reduceLT, Int.reduceLE, Int.reduceAdd, Int.reduceSub, Int.reduceMul, Int.reduceEq, Int.reduceNeg, reduceCtorEq, or_false, false_or, decide_true, decide_false, Int.cast_ofNat_Int, Nat.zero_add, Nat.add_zero, Int.toNat_natCast, Option.isNone_none, Option.isNone_some, Bool.not_true, Bool.not_false, Bool.xor_true, Bool.xor_false, Bool.true_xor, Bool.false_xor, decide_true, decide_false, Bool.and_true, Bool.true_and, Bool.and_false, Bool.false_and, eq_self, ne_eq, not_false_eq_true, not_true_eq_false, true_and, and_true, and_self, h1, h2, Tk.c, ib, Bool.true_or, Bool.false_or, Bool.or_true, Bool.or_false]
    exact fun ρ a w hs _ => ⟨rfl, hs.grown⟩
end Go.Proofs.Ytbdffcgbleiiaaa
