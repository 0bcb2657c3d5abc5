/-
  Marks and vectors of the chains' laws. Conditions: none.
-/
import Derived.Test.YtbdffcgbleiiaaaStamp
import Derived.Test.YtbdffcgbleiiaaaSx22
import Derived.Test.YtbdffcgbleiiaaaSx13
namespace Go.Proofs.Ytbdffcgbleiiaaa
open Go.RowKit Go.Sx
set_option linter.unusedVariables false
set_option linter.unusedSimpArgs false

def few (v : V4) (own : Bool) : V4 := if own then ⟨v.a.tmod 4, v.b.tmod 4, v.c.tmod 4, v.d.tmod 4⟩ else v
def mdc (dc : Int) : Int := IntKind.i64.wrap (1 + IntKind.i64.wrap ((IntKind.u64.wrap dc).tmod 3))
theorem mdc3 (dc : Int) : mdc dc = 1 ∨ mdc dc = 2 ∨ mdc dc = 3 := by
  unfold mdc
  obtain ⟨x, hx⟩ : ∃ x : Nat, IntKind.u64.wrap dc = x := ⟨(dc % 18446744073709551616).toNat, by simp [IntKind.wrap, IntKind.bits, IntKind.signed]; omega⟩
  rw [hx, show (x : Int).tmod 3 = ((x % 3 : Nat) : Int) from rfl]
  have : x % 3 < 3 := Nat.mod_lt _ (by omega)
  rw [wrap_i64 ((x % 3 : Nat) : Int) (by omega) (by omega), wrap_i64 _ (by omega) (by omega)]
  omega
def bmp (x : Int) : Int := IntKind.u64.wrap (1 + x)
def mown (m : Stp) : Stp :=
  if mdc m.dc = 1 then ⟨⟨bmp (m.v.a.tmod 4), m.v.b.tmod 4, m.v.c.tmod 4, 0⟩, 1⟩
  else if mdc m.dc = 2 then ⟨⟨m.v.a.tmod 4, bmp (m.v.b.tmod 4), m.v.c.tmod 4, 0⟩, 2⟩
  else ⟨⟨m.v.a.tmod 4, m.v.b.tmod 4, bmp (m.v.c.tmod 4), 0⟩, 3⟩
def mk (m : Stp) (own : Bool) : Stp := if own then mown m else m
set_option maxRecDepth 100000 in
theorem mark_c (m : Stp) (own : Bool) (w : World) : Calls Try.prog 13 #[.agg #[vu m.v.a, vu m.v.b, vu m.v.c, vu m.v.d, .int .i64 m.dc, .bool own]] w fun e w' => e = .returned (mk m own).val ∧ Below w.heap.size w w' := by
  obtain ⟨⟨a0, a1, a2, a3⟩, dc⟩ := m
  refine calls_pure 44 _ Try.func13 rfl Try.ntmps13 Try.results13 [.agg [cu a0, cu a1, cu a2, cu a3, ci dc, .v (.bool own)]] (by simp) (fun _ => rfl) ?_
  cases own
  · simp only [go_sem, ↓reduceIte, Nat.reduceEqDiff, Nat.reduceLT, Nat.reduceLeDiff, Nat.reduceAdd, Nat.reduceMul, Nat.reduceSub, Nat.reduceDiv, Nat.reduceMod, Int.reduceToNat, Int.reduceLT, Int.reduceLE, Int.reduceAdd, Int.reduceSub, Int.reduceMul, Int.reduceEq, Int.reduceNeg, reduceCtorEq, or_false, false_or, decide_true, decide_false, Int.cast_ofNat_Int, Nat.zero_add, Nat.add_zero, Int.toNat_natCast, Option.isNone_none, Option.isNone_some, Bool.not_true, Bool.not_false, Bool.xor_true, Bool.xor_false, Bool.true_xor, Bool.false_xor, decide_true, decide_false, Bool.and_true, Bool.true_and, Bool.and_false, Bool.false_and, eq_self, ne_eq, not_false_eq_true, not_true_eq_false, true_and, and_true, and_self]
    exact fun ρ a w hs _ => ⟨rfl, hs.grown⟩
  · simp only [go_sem, ↓reduceIte, Nat.reduceEqDiff, Nat.reduceLT, Nat.reduceLeDiff, Nat.reduceAdd, Nat.reduceMul, Nat.reduceSub, Nat.reduceDiv, Nat.reduceMod, Int.reduceToNat, Int.reduceLT, Int.reduceLE, Int.reduceAdd, Int.reduceSub, Int.reduceMul, Int.reduceEq, Int.reduceNeg, reduceCtorEq, or_false, false_or, decide_true, decide_false, Int.cast_ofNat_Int, Nat.zero_add, Nat.add_zero, Int.toNat_natCast, Option.isNone_none, Option.isNone_some, Bool.not_true, Bool.not_false, Bool.xor_true, Bool.xor_false, Bool.true_xor, Bool.false_xor, decide_true, decide_false, Bool.and_true, Bool.true_and, Bool.and_false, Bool.false_and, eq_self, ne_eq, not_false_eq_true, not_true_eq_false, true_and, and_true, and_self]
    refine sloop_rounds 4 ?_
    rcases mdc3 dc with hd | hd | hd
    all_goals
      have hd' := hd
      unfold mdc at hd
      simp only [go_sem, ↓reduceIte, Nat.reduceEqDiff, Nat.reduceLT, Nat.reduceLeDiff, Nat.reduceAdd, Nat.reduceMul, Nat.reduceSub, Nat.reduceDiv, Nat.reduceMod, Int.reduceToNat, Int.reduceLT, Int.reduceLE, Int.reduceAdd, Int.reduceSub, Int.reduceMul, Int.reduceEq, Int.reduceNeg, reduceCtorEq, or_false, false_or, decide_true, decide_false, Int.cast_ofNat_Int, Nat.zero_add, Nat.add_zero, Int.toNat_natCast, Option.isNone_none, Option.isNone_some, Bool.not_true, Bool.not_false, Bool.xor_true, Bool.xor_false, Bool.true_xor, Bool.false_xor, decide_true, decide_false, Bool.and_true, Bool.true_and, Bool.and_false, Bool.false_and, eq_self, ne_eq, not_false_eq_true, not_true_eq_false, true_and, and_true, and_self, hd]
      refine sdraw0 [.t 0, .t 1, .t 2, .t 3, .t 4, .t 5, .t 6, .t 7, .t 8, .t 9, .t 10, .t 11, .r 12] 12 rfl (by kernel_rfl) ?_
      simp only [go_sem, ↓reduceIte, Nat.reduceEqDiff, Nat.reduceLT, Nat.reduceLeDiff, Nat.reduceAdd, Nat.reduceMul, Nat.reduceSub, Nat.reduceDiv, Nat.reduceMod, Int.reduceToNat, Int.reduceLT, Int.reduceLE, Int.reduceAdd, Int.reduceSub, Int.reduceMul, Int.reduceEq, Int.reduceNeg, reduceCtorEq, or_false, false_or, decide_true, decide_false, Int.cast_ofNat_Int, Nat.zero_add, Nat.add_zero, Int.toNat_natCast, Option.isNone_none, Option.isNone_some, Bool.not_true, Bool.not_false, Bool.xor_true, Bool.xor_false, Bool.true_xor, Bool.false_xor, decide_true, decide_false, Bool.and_true, Bool.true_and, Bool.and_false, Bool.false_and, eq_self, ne_eq, not_false_eq_true, not_true_eq_false, true_and, and_true, and_self, hd]
      exact fun ρ a w hs _ => ⟨by simp [mk, mown, hd', Stp.val, Stp.l, SV.den, CV.denL, CV.den, bmp], hs.grown⟩
set_option maxRecDepth 100000 in
theorem vector_c (x : V4) (own : Bool) (w : World) : Calls Try.prog 14 #[.agg #[vu x.a, vu x.b, vu x.c, vu x.d, .bool own]] w fun e w' => e = .returned (few x own).v ∧ Below w.heap.size w w' := by
  obtain ⟨a0, a1, a2, a3⟩ := x
  refine calls_pure 20 _ Try.func14 rfl Try.ntmps14 Try.results14 [.agg [cu a0, cu a1, cu a2, cu a3, .v (.bool own)]] (by simp) (fun _ => rfl) ?_
  cases own
  · simp only [go_sem, ↓reduceIte, Nat.reduceEqDiff, Nat.reduceLT, Nat.reduceLeDiff, Nat.reduceAdd, Nat.reduceMul, Nat.reduceSub, Nat.reduceDiv, Nat.reduceMod, Int.reduceToNat, Int.reduceLT, Int.reduceLE, Int.reduceAdd, Int.reduceSub, Int.reduceMul, Int.reduceEq, Int.reduceNeg, reduceCtorEq, or_false, false_or, decide_true, decide_false, Int.cast_ofNat_Int, Nat.zero_add, Nat.add_zero, Int.toNat_natCast, Option.isNone_none, Option.isNone_some, Bool.not_true, Bool.not_false, Bool.xor_true, Bool.xor_false, Bool.true_xor, Bool.false_xor, decide_true, decide_false, Bool.and_true, Bool.true_and, Bool.and_false, Bool.false_and, eq_self, ne_eq, not_false_eq_true, not_true_eq_false, true_and, and_true, and_self]
    exact fun ρ a w hs _ => ⟨rfl, hs.grown⟩
  · simp only [go_sem, ↓reduceIte, Nat.reduceEqDiff, Nat.reduceLT, Nat.reduceLeDiff, Nat.reduceAdd, Nat.reduceMul, Nat.reduceSub, Nat.reduceDiv, Nat.reduceMod, Int.reduceToNat, Int.reduceLT, Int.reduceLE, Int.reduceAdd, Int.reduceSub, Int.reduceMul, Int.reduceEq, Int.reduceNeg, reduceCtorEq, or_false, false_or, decide_true, decide_false, Int.cast_ofNat_Int, Nat.zero_add, Nat.add_zero, Int.toNat_natCast, Option.isNone_none, Option.isNone_some, Bool.not_true, Bool.not_false, Bool.xor_true, Bool.xor_false, Bool.true_xor, Bool.false_xor, decide_true, decide_false, Bool.and_true, Bool.true_and, Bool.and_false, Bool.false_and, eq_self, ne_eq, not_false_eq_true, not_true_eq_false, true_and, and_true, and_self]
    refine sloop_rounds 5 ?_
    simp only [go_sem, ↓reduceIte, Nat.reduceEqDiff, Nat.reduceLT, Nat.reduceLeDiff, Nat.reduceAdd, Nat.reduceMul, Nat.reduceSub, Nat.reduceDiv, Nat.reduceMod, Int.reduceToNat, Int.reduceLT, Int.reduceLE, Int.reduceAdd, Int.reduceSub, Int.reduceMul, Int.reduceEq, Int.reduceNeg, reduceCtorEq, or_false, false_or, decide_true, decide_false, Int.cast_ofNat_Int, Nat.zero_add, Nat.add_zero, Int.toNat_natCast, Option.isNone_none, Option.isNone_some, Bool.not_true, Bool.not_false, Bool.xor_true, Bool.xor_false, Bool.true_xor, Bool.false_xor, decide_true, decide_false, Bool.and_true, Bool.true_and, Bool.and_false, Bool.false_and, eq_self, ne_eq, not_false_eq_true, not_true_eq_false, true_and, and_true, and_self]
    exact fun ρ a w hs _ => ⟨rfl, hs.grown⟩
set_option maxRecDepth 100000 in
/-- A mark of one's own is a stamp that is right. -/
theorem mown_right {m : Stp} (h : 0 ≤ m.v.a ∧ 0 ≤ m.v.b ∧ 0 ≤ m.v.c) : (mown m).right = true := by
  obtain ⟨⟨a0, a1, a2, a3⟩, dc⟩ := m
  obtain ⟨h0, h1, h2⟩ := h
  have t4 : ∀ x : Int, 0 ≤ x → 0 ≤ x.tmod 4 ∧ x.tmod 4 < 4 := fun x hx => ⟨Int.tmod_nonneg _ hx, Int.tmod_lt_of_pos _ (by omega)⟩
  have k0 := t4 a0 h0
  have k1 := t4 a1 h1
  have k2 := t4 a2 h2
  have b : ∀ x : Int, 0 ≤ x ∧ x < 4 → bmp x = 1 + x := fun x hx => wrap_u64 _ (by omega) (by omega)
  unfold mown
  split
  · simp [Stp.right, V4.right, V4.leq, Stp.n, V4.at, b _ k0]; omega
  · split
    · simp [Stp.right, V4.right, V4.leq, Stp.n, V4.at, b _ k1]; omega
    · simp [Stp.right, V4.right, V4.leq, Stp.n, V4.at, b _ k2]; omega
theorem u64_nn {a : Int} (hw : (Lit.int .u64 a).wf = true) : 0 ≤ a := by
  simp [Lit.wf, IntKind.min, IntKind.max, IntKind.signed, IntKind.bits] at hw
  exact hw.1
theorem FOk_i {k : IntKind} {ks : List FK} : ∀ {l : List Value}, FOk (.i k :: ks) l → ∃ n r, l = .int k n :: r ∧ (Lit.int k n).wf = true ∧ FOk ks r
  | _ :: r, ⟨⟨n, h1, h2⟩, h3⟩ => ⟨n, r, by rw [h1], h2, h3⟩
theorem FOk_b {ks : List FK} : ∀ {l : List Value}, FOk (.b :: ks) l → ∃ b r, l = .bool b :: r ∧ FOk ks r
  | _ :: r, ⟨⟨n, h1⟩, h3⟩ => ⟨n, r, by rw [h1], h3⟩
theorem FOk_s {ks : List FK} : ∀ {l : List Value}, FOk (.s :: ks) l → ∃ b r, l = .string b :: r ∧ b.size ≤ maxLen ∧ FOk ks r
  | _ :: r, ⟨⟨n, h1, h2⟩, h3⟩ => ⟨n, r, by rw [h1], h2, h3⟩
theorem FOk_0 : ∀ {l : List Value}, FOk [] l → l = []
  | [], _ => rfl
theorem row_mark {l : List Value} (h : FOk [.i .u64, .i .u64, .i .u64, .i .u64, .i .i64, .b] l) : ∃ (m : Stp) (own : Bool), (0 ≤ m.v.a ∧ 0 ≤ m.v.b ∧ 0 ≤ m.v.c) ∧ l.map CV.v = [cu m.v.a, cu m.v.b, cu m.v.c, cu m.v.d, ci m.dc, .v (.bool own)] := by
  obtain ⟨x0, l0, rfl, w0, h0⟩ := FOk_i h
  obtain ⟨x1, l1, rfl, w1, h1⟩ := FOk_i h0
  obtain ⟨x2, l2, rfl, w2, h2⟩ := FOk_i h1
  obtain ⟨x3, l3, rfl, w3, h3⟩ := FOk_i h2
  obtain ⟨x4, l4, rfl, w4, h4⟩ := FOk_i h3
  obtain ⟨b, l5, rfl, h5⟩ := FOk_b h4
  obtain rfl := FOk_0 h5
  exact ⟨⟨⟨x0, x1, x2, x3⟩, x4⟩, b, ⟨u64_nn w0, u64_nn w1, u64_nn w2⟩, rfl⟩
end Go.Proofs.Ytbdffcgbleiiaaa
