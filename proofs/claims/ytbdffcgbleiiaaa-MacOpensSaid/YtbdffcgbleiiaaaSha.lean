/-
  The digest: right, keys, Start. Conditions: none.
-/
import Derived.Test.YtbdffcgbleiiaaaShaM
import Derived.Test.YtbdffcgbleiiaaaTy
namespace Go.Proofs.Ytbdffcgbleiiaaa
open Go.RowKit Go.Sx Go.Sha
set_option linter.unusedVariables false
set_option linter.unusedSimpArgs false

abbrev c32 (n : Nat) : CV := .v (.int .u32 (n : Int))
abbrev v32 (n : Nat) : Value := .int .u32 (n : Int)
theorem rot31 : ∀ n : Nat, n < 32 → 0 < n → ibit .and .u64 (IntKind.u64.wrap (IntKind.i64.wrap (0 - (n : Int)))) 31 = ((32 - n : Nat) : Int) := by decide
theorem rot32 : ∀ n : Nat, n < 32 → 0 < n → IntKind.u64.wrap (32 - ((32 - n : Nat) : Int)) = (n : Int) := by decide
theorem rotmin : ∀ n : Nat, n < 32 → 0 < n → (0 ≤ ((32 - n : Nat) : Int)) ∧ min (32 - n) 32 = 32 - n ∧ min n 32 = n := by decide
theorem right_c (x n : Nat) (h : 0 < n ∧ n < 32) (w : World) : Calls Try.prog 129 #[v32 x, .int .i64 n] w fun e w' => e = .returned (v32 (rr x n)) ∧ Below w.heap.size w w' := by
  have h1 := rot31 n h.2 h.1
  have h2 := rot32 n h.2 h.1
  obtain ⟨h3, h4, h5⟩ := rotmin n h.2 h.1
  have h6 : 0 ≤ (n : Int) := by omega
  refine calls_pure 9 _ Try.func129 rfl Try.ntmps129 Try.results129 [.c (c32 x), .c (.v (.int .i64 n))] (by simp) (fun _ => rfl) ?_
  simp only [go_sem, ↓reduceIte, Nat.reduceEqDiff, Nat.reduceLT, Nat.reduceLeDiff, Nat.reduceAdd, Nat.reduceMul, Nat.reduceSub, Nat.reduceDiv, Nat.reduceMod, Int.reduceToNat, Int.reduceLT, Int.reduceLE, Int.reduceAdd, Int.reduceSub, Int.reduceMul, Int.reduceEq, Int.reduceNeg, reduceCtorEq, or_false, false_or, decide_true, decide_false, Int.cast_ofNat_Int, Nat.zero_add, Nat.add_zero, Int.toNat_natCast, Option.isNone_none, Option.isNone_some, Bool.not_true, Bool.not_false, Bool.xor_true, Bool.xor_false, Bool.true_xor, Bool.false_xor, decide_true, decide_false, Bool.and_true, Bool.true_and, Bool.and_false, Bool.false_and, eq_self, ne_eq, not_false_eq_true, not_true_eq_false, true_and, and_true, and_self]
  refine scall_in 17 _ Try.func143 rfl Try.ntmps143 Try.results143 Try.call143 (by simp only [go_sem, ↓reduceIte, Nat.reduceEqDiff, Nat.reduceLT, Nat.reduceLeDiff, Nat.reduceAdd, Nat.reduceMul, Nat.reduceSub, Nat.reduceDiv, Nat.reduceMod, Int.reduceToNat, Int.reduceLT, Int.reduceLE, Int.reduceAdd, Int.reduceSub, Int.reduceMul, Int.reduceEq, Int.reduceNeg, reduceCtorEq, or_false, false_or, decide_true, decide_false, Int.cast_ofNat_Int, Nat.zero_add, Nat.add_zero, Int.toNat_natCast, Option.isNone_none, Option.isNone_some, Bool.not_true, Bool.not_false, Bool.xor_true, Bool.xor_false, Bool.true_xor, Bool.false_xor, decide_true, decide_false, Bool.and_true, Bool.true_and, Bool.and_false, Bool.false_and, eq_self, ne_eq, not_false_eq_true, not_true_eq_false, true_and, and_true, and_self]) (fun _ _ => ?_)
  simp only [go_sem, ↓reduceIte, Nat.reduceEqDiff, Nat.reduceLT, Nat.reduceLeDiff, Nat.reduceAdd, Nat.reduceMul, Nat.reduceSub, Nat.reduceDiv, Nat.reduceMod, Int.reduceToNat, Int.reduceLT, Int.reduceLE, Int.reduceAdd, Int.reduceSub, Int.reduceMul, Int.reduceEq, Int.reduceNeg, reduceCtorEq, or_false, false_or, decide_true, decide_false, Int.cast_ofNat_Int, Nat.zero_add, Nat.add_zero, Int.toNat_natCast, Option.isNone_none, Option.isNone_some, Bool.not_true, Bool.not_false, Bool.xor_true, Bool.xor_false, Bool.true_xor, Bool.false_xor, decide_true, decide_false, Bool.and_true, Bool.true_and, Bool.and_false, Bool.false_and, eq_self, ne_eq, not_false_eq_true, not_true_eq_false, true_and, and_true, and_self, h1, h2, h3, h4, h5, h6, wShl, wShr, bOr, IntKind.bits]
  exact fun ρ a w hs _ => ⟨rfl, hs.grown⟩
def S8.cs (s : S8) : List CV := [c32 s.a, c32 s.b, c32 s.c, c32 s.d, c32 s.e, c32 s.f, c32 s.g, c32 s.h]
def S8.vs (s : S8) : List Value := [v32 s.a, v32 s.b, v32 s.c, v32 s.d, v32 s.e, v32 s.f, v32 s.g, v32 s.h]
theorem start_c (w : World) : Calls Try.prog 110 #[] w fun e w' => e = .returned (.agg (S8.vs Sha.start).toArray) ∧ Below w.heap.size w w' := by
  refine calls_pure 2 _ Try.func110 rfl Try.ntmps110 Try.results110 [] (by simp) (fun _ => rfl) ?_
  simp only [go_sem, ↓reduceIte, Nat.reduceEqDiff, Nat.reduceLT, Nat.reduceLeDiff, Nat.reduceAdd, Nat.reduceMul, Nat.reduceSub, Nat.reduceDiv, Nat.reduceMod, Int.reduceToNat, Int.reduceLT, Int.reduceLE, Int.reduceAdd, Int.reduceSub, Int.reduceMul, Int.reduceEq, Int.reduceNeg, reduceCtorEq, or_false, false_or, decide_true, decide_false, Int.cast_ofNat_Int, Nat.zero_add, Nat.add_zero, Int.toNat_natCast, Option.isNone_none, Option.isNone_some, Bool.not_true, Bool.not_false, Bool.xor_true, Bool.xor_false, Bool.true_xor, Bool.false_xor, decide_true, decide_false, Bool.and_true, Bool.true_and, Bool.and_false, Bool.false_and, eq_self, ne_eq, not_false_eq_true, not_true_eq_false, true_and, and_true, and_self]
  exact fun ρ a w hs _ => ⟨rfl, hs.grown⟩
theorem wO_of {α : Type} {x : Option α} {y : α} {F : α → Prop} (h : x = some y) (hF : F y) : wO x F := by rw [h]; exact hF
theorem klen : (keys.map c32).length = 64 := (rfl)
theorem kall : (keys.map c32).all one1 = true := (rfl)
set_option maxRecDepth 100000 in
theorem keys_c (w : World) : Calls Try.prog 130 #[] w fun e w' => e = .returned (.agg (keys.map v32).toArray) ∧ Below w.heap.size w w' := by
  refine calls_pure 2 _ Try.func130 rfl Try.ntmps130 Try.results130 [] (by simp) (fun _ => rfl) ?_
  simp only [X_seq, X_reg, X_ret, seqQ_n, XL_none, XL_nil, dOk_s, XOp_alloc, tz187, tarr187, allocB_n, wO_s, XOp_bld, XV_bld, XBld_n, tpl187, tkind187, XBldA_a, tsz180, Nat.reduceLT, true_and, frOf_n]
  refine wO_of (y := keys.map c32) (by kernel_rfl) ?_
  simp only [kput_s, XL_none, dOk_n, true_and, XOp_store, tsz187, wO_s, ev_tmp, lk_cons, ↓reduceIte, Nat.reduceEqDiff, cO_a, klen, kall, wP_p, hget_cons, wrB_c, and_self]
  refine wO_of (y := keys.map c32) (by kernel_rfl) ?_
  simp only [go_sem, ↓reduceIte, Nat.reduceEqDiff, Nat.reduceLT, Nat.reduceLeDiff, Nat.reduceAdd, Nat.reduceMul, Nat.reduceSub, Nat.reduceDiv, Nat.reduceMod, Int.reduceToNat, Int.reduceLT, Int.reduceLE, Int.reduceAdd, Int.reduceSub, Int.reduceMul, Int.reduceEq, Int.reduceNeg, reduceCtorEq, or_false, false_or, decide_true, decide_false, Int.cast_ofNat_Int, Nat.zero_add, Nat.add_zero, Int.toNat_natCast, Option.isNone_none, Option.isNone_some, Bool.not_true, Bool.not_false, Bool.xor_true, Bool.xor_false, Bool.true_xor, Bool.false_xor, decide_true, decide_false, Bool.and_true, Bool.true_and, Bool.and_false, Bool.false_and, eq_self, ne_eq, not_false_eq_true, not_true_eq_false, true_and, and_true, and_self]
  refine wO_of (y := keys.map c32) (by kernel_rfl) ?_
  refine fun ρ a w hs _ => ⟨?_, hs.grown⟩
  show Ending.returned (.agg (CV.denL ρ (keys.map c32)).toArray) = _
  rw [CV.denL_eq, List.map_map]; rfl
theorem ent_cells_rows {C : Cx} {fr : List (Nat × SV)} {hp : List (Nat × Blk)} {nx : Nat} (n : Nat) {ty : TypeId} {cs : List CV} {r : Nat → List CV} {m : Nat} (hg : hget hp n = some (.cells ty cs)) (hm : m = cs.length) (hr : ∀ i, i < m → (r i).length = 1 ∧ (r i)[0]? = cs[i]?) : Ent C ⟨fr, hp, nx⟩ ⟨fr, hset hp n (.rows ty 1 m m r), nx⟩ := fun ρ a w hs => by
  subst hm
  refine ⟨ρ, ?_, fun _ _ => rfl⟩
  refine hs.set hg hs.now.keeps (Nat.le_refl _) (fun _ _ _ _ => rfl) fun ρ' hρ => ⟨rfl, ?_⟩
  obtain ⟨h1, h2, h3, h4⟩ := (hs ρ' hρ).hp _ _ (mem_hget hg)
  refine ⟨h1, h4, ⟨_, .of h2, by simp, fun i hi => ⟨(hr i hi).1, fun k hk => ?_⟩⟩, h3⟩
  have : k = 0 := by omega
  subst this
  rw [(hr i hi).2]
  simp
section
variable {C : Cx} {fr : List (Nat × SV)} {hp : List (Nat × Blk)} {nx : Nat} {d : Option Tmp} {K : St → Prop}
theorem right_s {x : Nat} (n : Nat) {m : Int} (hm : m = (n : Int)) (h : 0 < n ∧ n < 32) (hk : dOk C.N d ∧ kput K ⟨fr, hp, nx⟩ d (.c (c32 (rr x n)))) : SCall Try.prog C 129 [.c (c32 x), .c (.v (.int .i64 m))] d K ⟨fr, hp, nx⟩ := by
  subst hm
  exact scall_pure [v32 x, .int .i64 n] _ (v32 (rr x n)) Try.call129 (right_c x n h) rfl (fun _ => rfl) (fun _ => rfl) hk
end
end Go.Proofs.Ytbdffcgbleiiaaa
