/-
  mac: whether a token may be; Mint; May; a token by its parts. Conditions: none.
-/
import Derived.Test.YtbdffcgbleiiaaaMac
namespace Go.Proofs.Ytbdffcgbleiiaaa
open Go.RowKit Go.Sx Go.Sha Go.Pk
set_option linter.unusedVariables false
set_option linter.unusedSimpArgs false

structure Tk where
  tn : Int
  bk : ByteArray
  rt : Int
  un : Nat
def Tk.v (t : Tk) : Value := .agg #[.int .i64 t.tn, .string t.bk, .int .i64 t.rt, .int .u64 (t.un : Int)]
abbrev Tk.c (t : Tk) : List CV := [.v (.int .i64 t.tn), .v (.string t.bk), .v (.int .i64 t.rt), .v (.int .u64 (t.un : Int))]
def Tk.right (t : Tk) : Bool := decide (1 ≤ t.tn) && (decide (t.tn ≤ 8) && (!decide (t.bk = ⟨#[]⟩) && (decide ((t.bk.size : Int) ≤ 16) && (decide (1 ≤ t.rt) && decide (t.rt ≤ 3)))))
def Tk.zero : Tk := ⟨0, ⟨#[]⟩, 0, 0⟩
theorem Tk.right_iff {t : Tk} : t.right = true ↔ (1 ≤ t.tn ∧ t.tn ≤ 8) ∧ t.bk ≠ ⟨#[]⟩ ∧ t.bk.size ≤ 16 ∧ 1 ≤ t.rt ∧ t.rt ≤ 3 := by
  unfold Tk.right
  simp only [Bool.and_eq_true, decide_eq_true_eq, Bool.not_eq_true', decide_eq_false_iff_not, ne_eq]
  constructor
  · rintro ⟨h1, h2, h3, h4, h5, h6⟩; exact ⟨⟨h1, h2⟩, h3, by omega, h5, h6⟩
  · rintro ⟨⟨h1, h2⟩, h3, h4, h5, h6⟩; exact ⟨h1, h2, h3, by omega, h5, h6⟩
set_option maxRecDepth 100000 in
theorem tright_c (t : Tk) (w : World) : Calls Try.prog 46 #[t.v] w fun e w' => e = .returned (.bool t.right) ∧ Below w.heap.size w w' := by
  refine calls_pure 32 _ Try.func46 rfl Try.ntmps46 Try.results46 [.agg t.c] (by simp) (fun _ => rfl) ?_
  unfold Tk.right
  obtain ⟨b1, h1⟩ : ∃ b, decide (1 ≤ t.tn) = b := ⟨_, rfl⟩
  obtain ⟨b2, h2⟩ : ∃ b, decide (t.tn ≤ 8) = b := ⟨_, rfl⟩
  obtain ⟨b3, h3⟩ : ∃ b, decide (t.bk = ⟨#[]⟩) = b := ⟨_, rfl⟩
  obtain ⟨b4, h4⟩ : ∃ b, decide ((t.bk.size : Int) ≤ 16) = b := ⟨_, rfl⟩
  obtain ⟨b5, h5⟩ : ∃ b, decide (1 ≤ t.rt) = b := ⟨_, rfl⟩
  obtain ⟨b6, h6⟩ : ∃ b, decide (t.rt ≤ 3) = b := ⟨_, rfl⟩
  rw [h1, h2, h3, h4, h5, h6]
  cases b1
  · simp only [go_sem, ↓reduceIte, Nat.reduceEqDiff, Nat.reduceLT, Nat.reduceLeDiff, Nat.reduceAdd, Nat.reduceMul, Nat.reduceSub, Nat.reduceDiv, Nat.reduceMod, Int.reduceToNat, Int.reduceLT, Int.reduceLE, Int.reduceAdd, Int.reduceSub, Int.reduceMul, Int.reduceEq, Int.reduceNeg, reduceCtorEq, or_false, false_or, decide_true, decide_false, Int.cast_ofNat_Int, Nat.zero_add, Nat.add_zero, Int.toNat_natCast, Option.isNone_none, Option.isNone_some, Bool.not_true, Bool.not_false, Bool.xor_true, Bool.xor_false, Bool.true_xor, Bool.false_xor, decide_true, decide_false, Bool.and_true, Bool.true_and, Bool.and_false, Bool.false_and, eq_self, ne_eq, not_false_eq_true, not_true_eq_false, true_and, and_true, and_self, h1]
    exact fun ρ a w hs _ => ⟨rfl, hs.grown⟩
  cases b2
  · simp only [go_sem, ↓reduceIte, Nat.reduceEqDiff, Nat.reduceLT, Nat.reduceLeDiff, Nat.reduceAdd, Nat.reduceMul, Nat.reduceSub, Nat.reduceDiv, Nat.reduceMod, Int.reduceToNat, Int.reduceLT, Int.reduceLE, Int.reduceAdd, Int.reduceSub, Int.reduceMul, Int.reduceEq, Int.reduceNeg, reduceCtorEq, or_false, false_or, decide_true, decide_false, Int.cast_ofNat_Int, Nat.zero_add, Nat.add_zero, Int.toNat_natCast, Option.isNone_none, Option.isNone_some, Bool.not_true, Bool.not_false, Bool.xor_true, Bool.xor_false, Bool.true_xor, Bool.false_xor, decide_true, decide_false, Bool.and_true, Bool.true_and, Bool.and_false, Bool.false_and, eq_self, ne_eq, not_false_eq_true, not_true_eq_false, true_and, and_true, and_self, h1, h2]
    exact fun ρ a w hs _ => ⟨rfl, hs.grown⟩
  cases b3
  case true =>
    simp only [go_sem, ↓reduceIte, Nat.reduceEqDiff, Nat.reduceLT, Nat.reduceLeDiff, Nat.reduceAdd, Nat.reduceMul, Nat.reduceSub, Nat.reduceDiv, Nat.reduceMod, Int.reduceToNat, Int.reduceLT, Int.reduceLE, Int.reduceAdd, Int.reduceSub, Int.reduceMul, Int.reduceEq, Int.reduceNeg, reduceCtorEq, or_false, false_or, decide_true, decide_false, Int.cast_ofNat_Int, Nat.zero_add, Nat.add_zero, Int.toNat_natCast, Option.isNone_none, Option.isNone_some, Bool.not_true, Bool.not_false, Bool.xor_true, Bool.xor_false, Bool.true_xor, Bool.false_xor, decide_true, decide_false, Bool.and_true, Bool.true_and, Bool.and_false, Bool.false_and, eq_self, ne_eq, not_false_eq_true, not_true_eq_false, true_and, and_true, and_self, h1, h2, h3]
    exact fun ρ a w hs _ => ⟨rfl, hs.grown⟩
  cases b4
  · simp only [go_sem, ↓reduceIte, Nat.reduceEqDiff, Nat.reduceLT, Nat.reduceLeDiff, Nat.reduceAdd, Nat.reduceMul, Nat.reduceSub, Nat.reduceDiv, Nat.reduceMod, Int.reduceToNat, Int.reduceLT, Int.reduceLE, Int.reduceAdd, Int.reduceSub, Int.reduceMul, Int.reduceEq, Int.reduceNeg, reduceCtorEq, or_false, false_or, decide_true, decide_false, Int.cast_ofNat_Int, Nat.zero_add, Nat.add_zero, Int.toNat_natCast, Option.isNone_none, Option.isNone_some, Bool.not_true, Bool.not_false, Bool.xor_true, Bool.xor_false, Bool.true_xor, Bool.false_xor, decide_true, decide_false, Bool.and_true, Bool.true_and, Bool.and_false, Bool.false_and, eq_self, ne_eq, not_false_eq_true, not_true_eq_false, true_and, and_true, and_self, h1, h2, h3, h4]
    exact fun ρ a w hs _ => ⟨rfl, hs.grown⟩
  cases b5
  · simp only [go_sem, ↓reduceIte, Nat.reduceEqDiff, Nat.reduceLT, Nat.reduceLeDiff, Nat.reduceAdd, Nat.reduceMul, Nat.reduceSub, Nat.reduceDiv, Nat.reduceMod, Int.reduceToNat, Int.reduceLT, Int.reduceLE, Int.reduceAdd, Int.reduceSub, Int.reduceMul, Int.reduceEq, Int.reduceNeg, reduceCtorEq, or_false, false_or, decide_true, decide_false, Int.cast_ofNat_Int, Nat.zero_add, Nat.add_zero, Int.toNat_natCast, Option.isNone_none, Option.isNone_some, Bool.not_true, Bool.not_false, Bool.xor_true, Bool.xor_false, Bool.true_xor, Bool.false_xor, decide_true, decide_false, Bool.and_true, Bool.true_and, Bool.and_false, Bool.false_and, eq_self, ne_eq, not_false_eq_true, not_true_eq_false, true_and, and_true, and_self, h1, h2, h3, h4, h5]
    exact fun ρ a w hs _ => ⟨rfl, hs.grown⟩
  · simp only [go_sem, ↓reduceIte, Nat.reduceEqDiff, Nat.reduceLT, Nat.reduceLeDiff, Nat.reduceAdd, Nat.reduceMul, Nat.reduceSub, Nat.reduceDiv, Nat.reduceMod, Int.reduceToNat, Int.reduceLT, Int.reduceLE, Int.reduceAdd, Int.reduceSub, Int.reduceMul, Int.reduceEq, Int.reduceNeg, reduceCtorEq, or_false, false_or, decide_true, decide_false, Int.cast_ofNat_Int, Nat.zero_add, Nat.add_zero, Int.toNat_natCast, Option.isNone_none, Option.isNone_some, Bool.not_true, Bool.not_false, Bool.xor_true, Bool.xor_false, Bool.true_xor, Bool.false_xor, decide_true, decide_false, Bool.and_true, Bool.true_and, Bool.and_false, Bool.false_and, eq_self, ne_eq, not_false_eq_true, not_true_eq_false, true_and, and_true, and_self, h1, h2, h3, h4, h5, h6]
    exact fun ρ a w hs _ => ⟨rfl, hs.grown⟩
def plainL (t : Tk) : List Nat := ((be t.tn.toNat 1 ++ (vary t.bk.size ++ bl t.bk)) ++ be t.rt.toNat 1) ++ be t.un 8
def mintL (k : List Nat) (t : Tk) : List Nat := plainL t ++ hmL k (plainL t)
theorem plainL_lt {t : Tk} {x : Nat} (h : x ∈ plainL t) : x < 256 := by
  simp only [plainL, List.mem_append] at h
  rcases h with ((h | h | h) | h) | h
  · exact be_lt _ _ x h
  · exact vary_lt h
  · exact bl_lt _ x h
  · exact be_lt _ _ x h
  · exact be_lt _ _ x h
theorem plainL_len (t : Tk) : (plainL t).length = 10 + (vary t.bk.size).length + t.bk.size := by
  simp [plainL, be_len, bl_len]; omega
theorem mintL_lt {k : List Nat} {t : Tk} {x : Nat} (h : x ∈ mintL k t) : x < 256 := by
  rcases List.mem_append.1 h with h | h
  · exact plainL_lt h
  · exact shaL_lt _ x h
section
variable {C : Cx} {fr : List (Nat × SV)} {hp : List (Nat × Blk)} {nx : Nat} {d : Option Tmp} {K : St → Prop}
theorem tright_s {t : Tk} (h : dOk C.N d ∧ kput K ⟨fr, hp, nx⟩ d (.c (.v (.bool t.right)))) : SCall Try.prog C 46 [.agg [.v (.int .i64 t.tn), .v (.string t.bk), .v (.int .i64 t.rt), .v (.int .u64 (t.un : Int))]] d K ⟨fr, hp, nx⟩ :=
  scall_pure [t.v] _ (.bool t.right) Try.call46 (tright_c t) rfl (fun _ => rfl) (fun _ => rfl) h
end
set_option maxRecDepth 100000 in
set_option maxHeartbeats 1000000 in
theorem mint_c (k : ByteArray) (hk : k.size ≤ 4611686018427387000) (t : Tk) (w : World) : Calls Try.prog 43 #[.string k, t.v] w fun e w' => e = .returned (.tuple #[.string (if t.right then strN (mintL (bl k) t) else ⟨#[]⟩), .bool t.right]) ∧ Below w.heap.size w w' := by
  refine calls_pure 32 _ Try.func43 rfl Try.ntmps43 Try.results43 [.c (.v (.string k)), .agg t.c] (by simp) (fun _ => rfl) ?_
  simp (disch := omega) only [go_sem, ↓reduceIte, Nat.reduceEqDiff, Nat.reduceLT, Nat.reduceLeDiff, Nat.reduceAdd, Nat.reduceMul, Nat.reduceSub, Nat.reduceDiv, Nat.reduceMod, Int.reduceToNat, Int.reduceLT, Int.reduceLE, Int.reduceAdd, Int.reduceSub, Int.reduceMul, Int.reduceEq, Int.reduceNeg, reduceCtorEq, or_false, false_or, decide_true, decide_false, Int.cast_ofNat_Int, Nat.zero_add, Nat.add_zero, Int.toNat_natCast, Option.isNone_none, Option.isNone_some, Bool.not_true, Bool.not_false, Bool.xor_true, Bool.xor_false, Bool.true_xor, Bool.false_xor, decide_true, decide_false, Bool.and_true, Bool.true_and, Bool.and_false, Bool.false_and, eq_self, ne_eq, not_false_eq_true, not_true_eq_false, true_and, and_true, and_self, wrapI64, wrapu64, wrapu32, wrapu8, ltT, ltF, leT, leF, eqF, eqT, nltT, nleT, neqFn]
  refine tright_s ?_
  cases hr : t.right
  · simp (disch := omega) only [go_sem, ↓reduceIte, Nat.reduceEqDiff, Nat.reduceLT, Nat.reduceLeDiff, Nat.reduceAdd, Nat.reduceMul, Nat.reduceSub, Nat.reduceDiv, Nat.reduceMod, Int.reduceToNat, Int.reduceLT, Int.reduceLE, Int.reduceAdd, Int.reduceSub, Int.reduceMul, Int.reduceEq, Int.reduceNeg, reduceCtorEq, or_false, false_or, decide_true, decide_false, Int.cast_ofNat_Int, Nat.zero_add, Nat.add_zero, Int.toNat_natCast, Option.isNone_none, Option.isNone_some, Bool.not_true, Bool.not_false, Bool.xor_true, Bool.xor_false, Bool.true_xor, Bool.false_xor, decide_true, decide_false, Bool.and_true, Bool.true_and, Bool.and_false, Bool.false_and, eq_self, ne_eq, not_false_eq_true, not_true_eq_false, true_and, and_true, and_self, wrapI64, wrapu64, wrapu32, wrapu8, ltT, ltF, leT, leF, eqF, eqT, nltT, nleT, neqFn]
    exact fun ρ a w hs _ => ⟨rfl, hs.grown⟩
  obtain ⟨⟨h1, h2⟩, h3, h4, h5, h6⟩ := Tk.right_iff.1 hr
  obtain ⟨a, ha⟩ : ∃ a : Nat, t.tn = (a : Int) := ⟨t.tn.toNat, by omega⟩
  obtain ⟨b, hb⟩ : ∃ b : Nat, t.rt = (b : Int) := ⟨t.rt.toNat, by omega⟩
  obtain ⟨p1, q1⟩ : ∃ p, strN (be a 1) = p := ⟨_, rfl⟩
  obtain ⟨p2, q2⟩ : ∃ p, strN (vary t.bk.size ++ bl t.bk) = p := ⟨_, rfl⟩
  obtain ⟨p3, q3⟩ : ∃ p, strN (be b 1) = p := ⟨_, rfl⟩
  obtain ⟨p4, q4⟩ : ∃ p, strN (be t.un 8) = p := ⟨_, rfl⟩
  have z1 : p1.size = 1 := by rw [← q1, strN_size, be_len]
  have hvl : (vary t.bk.size).length ≤ 11 := varyF_len 10 _
  have z2 : p2.size ≤ 27 := by rw [← q2, strN_size, List.length_append, bl_len]; omega
  have z3 : p3.size = 1 := by rw [← q3, strN_size, be_len]
  have z4 : p4.size = 8 := by rw [← q4, strN_size, be_len]
  have e1 : p1.size + p2.size ≤ 9223372036854775807 := by omega
  have e2 : (p1 ++ p2).size + p3.size ≤ 9223372036854775807 := by rw [ByteArray.size_append]; omega
  have e3 : (p1 ++ p2 ++ p3).size + p4.size ≤ 9223372036854775807 := by rw [ByteArray.size_append, ByteArray.size_append]; omega
  have hp : p1 ++ p2 ++ p3 ++ p4 = strN (plainL t) := by
    rw [← q1, ← q2, ← q3, ← q4, ← strN_app, ← strN_app, ← strN_app]
    unfold plainL
    rw [ha, hb]; rfl
  have hpl := plainL_len t
  have hbp : bl (strN (plainL t)) = plainL t := bl_strN fun x hx => plainL_lt hx
  have hps := strN_size (plainL t)
  have hhs := strN_size (hmL (bl k) (plainL t))
  rw [hmL_len] at hhs
  have e4 : (strN (plainL t)).size + (strN (hmL (bl k) (plainL t))).size ≤ 9223372036854775807 := by omega
  have hfin : strN (plainL t) ++ strN (hmL (bl k) (plainL t)) = strN (mintL (bl k) t) := by rw [← strN_app]; rfl
  simp (disch := omega) only [go_sem, ↓reduceIte, Nat.reduceEqDiff, Nat.reduceLT, Nat.reduceLeDiff, Nat.reduceAdd, Nat.reduceMul, Nat.reduceSub, Nat.reduceDiv, Nat.reduceMod, Int.reduceToNat, Int.reduceLT, Int.reduceLE, Int.reduceAdd, Int.reduceSub, Int.reduceMul, Int.reduceEq, Int.reduceNeg, reduceCtorEq, or_false, false_or, decide_true, decide_false, Int.cast_ofNat_Int, Nat.zero_add, Nat.add_zero, Int.toNat_natCast, Option.isNone_none, Option.isNone_some, Bool.not_true, Bool.not_false, Bool.xor_true, Bool.xor_false, Bool.true_xor, Bool.false_xor, decide_true, decide_false, Bool.and_true, Bool.true_and, Bool.and_false, Bool.false_and, eq_self, ne_eq, not_false_eq_true, not_true_eq_false, true_and, and_true, and_self, wrapI64, wrapu64, wrapu32, wrapu8, ltT, ltF, leT, leF, eqF, eqT, nltT, nleT, neqFn]
  refine sdraw [.t 0, .t 1, .t 2, .t 4, .t 5, .t 8, .t 9, .t 10, .t 13, .t 14, .r 3, .r 6, .t 7, .r 11, .t 12, .r 15, .t 16, .t 17] 18 [(0, _)] rfl (by kernel_rfl) ⟨rfl, trivial⟩ ?_
  simp (disch := omega) only [go_sem, ↓reduceIte, Nat.reduceEqDiff, Nat.reduceLT, Nat.reduceLeDiff, Nat.reduceAdd, Nat.reduceMul, Nat.reduceSub, Nat.reduceDiv, Nat.reduceMod, Int.reduceToNat, Int.reduceLT, Int.reduceLE, Int.reduceAdd, Int.reduceSub, Int.reduceMul, Int.reduceEq, Int.reduceNeg, reduceCtorEq, or_false, false_or, decide_true, decide_false, Int.cast_ofNat_Int, Nat.zero_add, Nat.add_zero, Int.toNat_natCast, Option.isNone_none, Option.isNone_some, Bool.not_true, Bool.not_false, Bool.xor_true, Bool.xor_false, Bool.true_xor, Bool.false_xor, decide_true, decide_false, Bool.and_true, Bool.true_and, Bool.and_false, Bool.false_and, eq_self, ne_eq, not_false_eq_true, not_true_eq_false, true_and, and_true, and_self, wrapI64, wrapu64, wrapu32, wrapu8, ltT, ltF, leT, leF, eqF, eqT, nltT, nleT, neqFn]
  rw [ha, hb]
  refine number_s 1 rfl (.inl rfl) ?_
  rw [q1]
  simp (disch := omega) only [go_sem, ↓reduceIte, Nat.reduceEqDiff, Nat.reduceLT, Nat.reduceLeDiff, Nat.reduceAdd, Nat.reduceMul, Nat.reduceSub, Nat.reduceDiv, Nat.reduceMod, Int.reduceToNat, Int.reduceLT, Int.reduceLE, Int.reduceAdd, Int.reduceSub, Int.reduceMul, Int.reduceEq, Int.reduceNeg, reduceCtorEq, or_false, false_or, decide_true, decide_false, Int.cast_ofNat_Int, Nat.zero_add, Nat.add_zero, Int.toNat_natCast, Option.isNone_none, Option.isNone_some, Bool.not_true, Bool.not_false, Bool.xor_true, Bool.xor_false, Bool.true_xor, Bool.false_xor, decide_true, decide_false, Bool.and_true, Bool.true_and, Bool.and_false, Bool.false_and, eq_self, ne_eq, not_false_eq_true, not_true_eq_false, true_and, and_true, and_self, wrapI64, wrapu64, wrapu32, wrapu8, ltT, ltF, leT, leF, eqF, eqT, nltT, nleT, neqFn]
  refine text_s (by omega) ?_
  rw [q2]
  simp (disch := omega) only [go_sem, ↓reduceIte, Nat.reduceEqDiff, Nat.reduceLT, Nat.reduceLeDiff, Nat.reduceAdd, Nat.reduceMul, Nat.reduceSub, Nat.reduceDiv, Nat.reduceMod, Int.reduceToNat, Int.reduceLT, Int.reduceLE, Int.reduceAdd, Int.reduceSub, Int.reduceMul, Int.reduceEq, Int.reduceNeg, reduceCtorEq, or_false, false_or, decide_true, decide_false, Int.cast_ofNat_Int, Nat.zero_add, Nat.add_zero, Int.toNat_natCast, Option.isNone_none, Option.isNone_some, Bool.not_true, Bool.not_false, Bool.xor_true, Bool.xor_false, Bool.true_xor, Bool.false_xor, decide_true, decide_false, Bool.and_true, Bool.true_and, Bool.and_false, Bool.false_and, eq_self, ne_eq, not_false_eq_true, not_true_eq_false, true_and, and_true, and_self, wrapI64, wrapu64, wrapu32, wrapu8, ltT, ltF, leT, leF, eqF, eqT, nltT, nleT, neqFn, e1]
  refine number_s 1 rfl (.inl rfl) ?_
  rw [q3]
  simp (disch := omega) only [go_sem, ↓reduceIte, Nat.reduceEqDiff, Nat.reduceLT, Nat.reduceLeDiff, Nat.reduceAdd, Nat.reduceMul, Nat.reduceSub, Nat.reduceDiv, Nat.reduceMod, Int.reduceToNat, Int.reduceLT, Int.reduceLE, Int.reduceAdd, Int.reduceSub, Int.reduceMul, Int.reduceEq, Int.reduceNeg, reduceCtorEq, or_false, false_or, decide_true, decide_false, Int.cast_ofNat_Int, Nat.zero_add, Nat.add_zero, Int.toNat_natCast, Option.isNone_none, Option.isNone_some, Bool.not_true, Bool.not_false, Bool.xor_true, Bool.xor_false, Bool.true_xor, Bool.false_xor, decide_true, decide_false, Bool.and_true, Bool.true_and, Bool.and_false, Bool.false_and, eq_self, ne_eq, not_false_eq_true, not_true_eq_false, true_and, and_true, and_self, wrapI64, wrapu64, wrapu32, wrapu8, ltT, ltF, leT, leF, eqF, eqT, nltT, nleT, neqFn, e2]
  refine number_s 8 rfl (.inr (.inr (.inr rfl))) ?_
  rw [q4]
  simp (disch := omega) only [go_sem, ↓reduceIte, Nat.reduceEqDiff, Nat.reduceLT, Nat.reduceLeDiff, Nat.reduceAdd, Nat.reduceMul, Nat.reduceSub, Nat.reduceDiv, Nat.reduceMod, Int.reduceToNat, Int.reduceLT, Int.reduceLE, Int.reduceAdd, Int.reduceSub, Int.reduceMul, Int.reduceEq, Int.reduceNeg, reduceCtorEq, or_false, false_or, decide_true, decide_false, Int.cast_ofNat_Int, Nat.zero_add, Nat.add_zero, Int.toNat_natCast, Option.isNone_none, Option.isNone_some, Bool.not_true, Bool.not_false, Bool.xor_true, Bool.xor_false, Bool.true_xor, Bool.false_xor, decide_true, decide_false, Bool.and_true, Bool.true_and, Bool.and_false, Bool.false_and, eq_self, ne_eq, not_false_eq_true, not_true_eq_false, true_and, and_true, and_self, wrapI64, wrapu64, wrapu32, wrapu8, ltT, ltF, leT, leF, eqF, eqT, nltT, nleT, neqFn, e3, hp]
  refine msum_s hk (by omega) ?_
  rw [hbp]
  simp (disch := omega) only [go_sem, ↓reduceIte, Nat.reduceEqDiff, Nat.reduceLT, Nat.reduceLeDiff, Nat.reduceAdd, Nat.reduceMul, Nat.reduceSub, Nat.reduceDiv, Nat.reduceMod, Int.reduceToNat, Int.reduceLT, Int.reduceLE, Int.reduceAdd, Int.reduceSub, Int.reduceMul, Int.reduceEq, Int.reduceNeg, reduceCtorEq, or_false, false_or, decide_true, decide_false, Int.cast_ofNat_Int, Nat.zero_add, Nat.add_zero, Int.toNat_natCast, Option.isNone_none, Option.isNone_some, Bool.not_true, Bool.not_false, Bool.xor_true, Bool.xor_false, Bool.true_xor, Bool.false_xor, decide_true, decide_false, Bool.and_true, Bool.true_and, Bool.and_false, Bool.false_and, eq_self, ne_eq, not_false_eq_true, not_true_eq_false, true_and, and_true, and_self, wrapI64, wrapu64, wrapu32, wrapu8, ltT, ltF, leT, leF, eqF, eqT, nltT, nleT, neqFn, e4, hfin]
  exact fun ρ a w hs _ => ⟨rfl, hs.grown⟩
end Go.Proofs.Ytbdffcgbleiiaaa
