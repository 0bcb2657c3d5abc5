/-
  mac: Equal. Conditions: none.
-/
import Derived.Test.YtbdffcgbleiiaaaMac2
namespace Go.Proofs.Ytbdffcgbleiiaaa
open Go.RowKit Go.Sx Go.Sha Go.Pk
set_option linter.unusedVariables false
set_option linter.unusedSimpArgs false

theorem rowsL_br {A : List Nat} : rowsL (fun j => brL A (0 + j)) A.length = A.map c8 := by
  unfold rowsL
  have : ∀ (B : List Nat), (List.range B.length).flatMap (fun j => brL B (0 + j)) = B.map c8 := fun B => by
    induction B with
    | nil => rfl
    | cons x B ih =>
      rw [List.length_cons, List.range_succ_eq_map, List.flatMap_cons, List.flatMap_map]
      have : ∀ j, brL (x :: B) (0 + (j + 1)) = brL B (0 + j) := fun j => by
        unfold brL; rw [show 0 + (j + 1) = (0 + j) + 1 by omega, List.drop_succ_cons]
      simp only [this]
      rw [ih]; rfl
  exact this A
theorem eqL_c8 : ∀ (A B : List Nat) (n : Nat), A.length = n → B.length = n → eqL (List.replicate n .i) (A.map c8) (B.map c8) = some (decide (A = B))
  | [], [], n, h1, h2 => by subst h1; rfl
  | x :: A, y :: B, n, h1, h2 => by
    obtain ⟨m, rfl⟩ : ∃ m, n = m + 1 := ⟨A.length, by simpa using h1.symm⟩
    have ih := eqL_c8 A B m (by simpa using h1) (by simpa using h2)
    rw [List.replicate_succ, List.map_cons, List.map_cons, eqL_i, ih, Option.map_some]
    congr 1
    rw [Bool.eq_iff_iff]
    simp only [Bool.and_eq_true, decide_eq_true_eq, List.cons.injEq]
    exact and_congr (by omega) Iff.rfl
  | [], _ :: _, n, h1, h2 => by subst h1; simp at h2
  | _ :: _, [], n, h1, h2 => by subst h2; simp at h1
set_option maxRecDepth 100000 in
set_option maxHeartbeats 2000000 in
theorem equal_c (a b : ByteArray) (w : World) : Calls Try.prog 41 #[.string a, .string b] w fun e w' => e = .returned (.bool (decide (a = b))) ∧ Below w.heap.size w w' := by
  refine calls_pure 25 _ Try.func41 rfl Try.ntmps41 Try.results41 [.c (.v (.string a)), .c (.v (.string b))] (by simp) (fun _ => rfl) ?_
  by_cases ha : a.size = 32
  case neg =>
    have h1 : ((a.size : Int) = 32) = False := eq_false (by omega)
    simp only [go_sem, ↓reduceIte, Nat.reduceEqDiff, Nat.reduceLT, Nat.reduceLeDiff, Nat.reduceAdd, Nat.reduceMul, Nat.reduceSub, Nat.reduceDiv, Nat.reduceMod, Int.reduceToNat, Int.reduceLT, Int.reduceLE, Int.reduceAdd, Int.reduceSub, Int.reduceMul, Int.reduceEq, Int.reduceNeg, reduceCtorEq, or_false, false_or, decide_true, decide_false, Int.cast_ofNat_Int, Nat.zero_add, Nat.add_zero, Int.toNat_natCast, Option.isNone_none, Option.isNone_some, Bool.not_true, Bool.not_false, Bool.xor_true, Bool.xor_false, Bool.true_xor, Bool.false_xor, decide_true, decide_false, Bool.and_true, Bool.true_and, Bool.and_false, Bool.false_and, eq_self, ne_eq, not_false_eq_true, not_true_eq_false, true_and, and_true, and_self, h1]
    exact fun ρ a w hs _ => ⟨rfl, hs.grown⟩
  by_cases hb : b.size = 32
  case neg =>
    have h1 : ((a.size : Int) = 32) = True := eq_true (by omega)
    have h2 : ((b.size : Int) = 32) = False := eq_false (by omega)
    simp only [go_sem, ↓reduceIte, Nat.reduceEqDiff, Nat.reduceLT, Nat.reduceLeDiff, Nat.reduceAdd, Nat.reduceMul, Nat.reduceSub, Nat.reduceDiv, Nat.reduceMod, Int.reduceToNat, Int.reduceLT, Int.reduceLE, Int.reduceAdd, Int.reduceSub, Int.reduceMul, Int.reduceEq, Int.reduceNeg, reduceCtorEq, or_false, false_or, decide_true, decide_false, Int.cast_ofNat_Int, Nat.zero_add, Nat.add_zero, Int.toNat_natCast, Option.isNone_none, Option.isNone_some, Bool.not_true, Bool.not_false, Bool.xor_true, Bool.xor_false, Bool.true_xor, Bool.false_xor, decide_true, decide_false, Bool.and_true, Bool.true_and, Bool.and_false, Bool.false_and, eq_self, ne_eq, not_false_eq_true, not_true_eq_false, true_and, and_true, and_self, h1, h2]
    exact fun ρ a w hs _ => ⟨rfl, hs.grown⟩
  have h1 : ((a.size : Int) = 32) = True := eq_true (by omega)
  have h2 : ((b.size : Int) = 32) = True := eq_true (by omega)
  simp only [go_sem, ↓reduceIte, Nat.reduceEqDiff, Nat.reduceLT, Nat.reduceLeDiff, Nat.reduceAdd, Nat.reduceMul, Nat.reduceSub, Nat.reduceDiv, Nat.reduceMod, Int.reduceToNat, Int.reduceLT, Int.reduceLE, Int.reduceAdd, Int.reduceSub, Int.reduceMul, Int.reduceEq, Int.reduceNeg, reduceCtorEq, or_false, false_or, decide_true, decide_false, Int.cast_ofNat_Int, Nat.zero_add, Nat.add_zero, Int.toNat_natCast, Option.isNone_none, Option.isNone_some, Bool.not_true, Bool.not_false, Bool.xor_true, Bool.xor_false, Bool.true_xor, Bool.false_xor, decide_true, decide_false, Bool.and_true, Bool.true_and, Bool.and_false, Bool.false_and, eq_self, ne_eq, not_false_eq_true, not_true_eq_false, true_and, and_true, and_self, h1, h2]
  refine sdraw [.t 0, .t 4, .c 1 [.t 2, .c 3 [.r 5, .t 6, .r 7, .t 8, .t 9] 5 [.t 6, .c 3 [.r 7, .t 8, .t 9] 7 [.r 3, .t 8, .t 9]]] 5 [.t 6, .c 1 [.t 2, .c 3 [.r 7, .t 8, .t 9] 7 [.r 3, .t 8, .t 9]] 7 [.r 1, .t 2, .r 3, .t 8, .t 9]]] 10 [] rfl (by kernel_rfl) trivial ?_
  have la : (bl a).length = 32 := by rw [bl_len, ha]
  have lb : (bl b).length = 32 := by rw [bl_len, hb]
  have one : ∀ A : List Nat, A.length = 32 → (∀ j, j < 32 → (brL A j).length = 1) = True := fun A hA => eq_true fun j hj => by
    rw [brL_get (List.getElem?_eq_getElem (by omega))]; rfl
  have rws : ∀ A : List Nat, A.length = 32 → rowsL (fun j => brL A j) 32 = A.map c8 := fun A hA => by
    have := rowsL_br (A := A)
    rw [hA] at this
    simpa using this
  have oa := one _ la
  have ob := one _ lb
  have ra := rws _ la
  have rb := rws _ lb
  have he : eqL [.i, .i, .i, .i, .i, .i, .i, .i, .i, .i, .i, .i, .i, .i, .i, .i, .i, .i, .i, .i, .i, .i, .i, .i, .i, .i, .i, .i, .i, .i, .i, .i] ((bl a).map c8) ((bl b).map c8) = some (decide (bl a = bl b)) := eqL_c8 (bl a) (bl b) 32 la lb
  have hd : decide (bl a = bl b) = decide (a = b) := by
    rw [Bool.eq_iff_iff, decide_eq_true_eq, decide_eq_true_eq]
    exact ⟨bl_inj, fun h => by rw [h]⟩
  rw [hd] at he
  simp only [go_sem, ↓reduceIte, Nat.reduceEqDiff, Nat.reduceLT, Nat.reduceLeDiff, Nat.reduceAdd, Nat.reduceMul, Nat.reduceSub, Nat.reduceDiv, Nat.reduceMod, Int.reduceToNat, Int.reduceLT, Int.reduceLE, Int.reduceAdd, Int.reduceSub, Int.reduceMul, Int.reduceEq, Int.reduceNeg, reduceCtorEq, or_false, false_or, decide_true, decide_false, Int.cast_ofNat_Int, Nat.zero_add, Nat.add_zero, Int.toNat_natCast, Option.isNone_none, Option.isNone_some, Bool.not_true, Bool.not_false, Bool.xor_true, Bool.xor_false, Bool.true_xor, Bool.false_xor, decide_true, decide_false, Bool.and_true, Bool.true_and, Bool.and_false, Bool.false_and, eq_self, ne_eq, not_false_eq_true, not_true_eq_false, true_and, and_true, and_self]
  refine ⟨?_, ?_⟩
  · refine sbytes2 rfl tkind9 tkind110 tint5 ⟨by show (17 : Nat) < 25; omega, fun c' hc' => ?_⟩
    rw [ha]
    simp (disch := omega) only [go_sem, ↓reduceIte, Nat.reduceEqDiff, Nat.reduceLT, Nat.reduceLeDiff, Nat.reduceAdd, Nat.reduceMul, Nat.reduceSub, Nat.reduceDiv, Nat.reduceMod, Int.reduceToNat, Int.reduceLT, Int.reduceLE, Int.reduceAdd, Int.reduceSub, Int.reduceMul, Int.reduceEq, Int.reduceNeg, reduceCtorEq, or_false, false_or, decide_true, decide_false, Int.cast_ofNat_Int, Nat.zero_add, Nat.add_zero, Int.toNat_natCast, Option.isNone_none, Option.isNone_some, Bool.not_true, Bool.not_false, Bool.xor_true, Bool.xor_false, Bool.true_xor, Bool.false_xor, decide_true, decide_false, Bool.and_true, Bool.true_and, Bool.and_false, Bool.false_and, eq_self, ne_eq, not_false_eq_true, not_true_eq_false, true_and, and_true, and_self, wrapI64, wrapu64, wrapu32, wrapu8, ltT, ltF, leT, leF, eqF, eqT, nltT, nleT, neqFn, oa, ra]
    refine ⟨?_, ?_⟩
    all_goals
      refine sbytes2 rfl tkind9 tkind110 tint5 ⟨by show (21 : Nat) < 25; omega, fun c2 hc2 => ?_⟩
      rw [hb]
      simp (disch := omega) only [go_sem, ↓reduceIte, Nat.reduceEqDiff, Nat.reduceLT, Nat.reduceLeDiff, Nat.reduceAdd, Nat.reduceMul, Nat.reduceSub, Nat.reduceDiv, Nat.reduceMod, Int.reduceToNat, Int.reduceLT, Int.reduceLE, Int.reduceAdd, Int.reduceSub, Int.reduceMul, Int.reduceEq, Int.reduceNeg, reduceCtorEq, or_false, false_or, decide_true, decide_false, Int.cast_ofNat_Int, Nat.zero_add, Nat.add_zero, Int.toNat_natCast, Option.isNone_none, Option.isNone_some, Bool.not_true, Bool.not_false, Bool.xor_true, Bool.xor_false, Bool.true_xor, Bool.false_xor, decide_true, decide_false, Bool.and_true, Bool.true_and, Bool.and_false, Bool.false_and, eq_self, ne_eq, not_false_eq_true, not_true_eq_false, true_and, and_true, and_self, wrapI64, wrapu64, wrapu32, wrapu8, ltT, ltF, leT, leF, eqF, eqT, nltT, nleT, neqFn, oa, ra, ob, rb, he]
      first | exact fun ρ a w hs _ => ⟨rfl, hs.grown⟩ | exact ⟨fun ρ a w hs _ => ⟨rfl, hs.grown⟩, fun ρ a w hs _ => ⟨rfl, hs.grown⟩⟩
  · refine sbytes2 rfl tkind9 tkind110 tint5 ⟨by show (21 : Nat) < 25; omega, fun c' hc' => ?_⟩
    rw [hb]
    simp (disch := omega) only [go_sem, ↓reduceIte, Nat.reduceEqDiff, Nat.reduceLT, Nat.reduceLeDiff, Nat.reduceAdd, Nat.reduceMul, Nat.reduceSub, Nat.reduceDiv, Nat.reduceMod, Int.reduceToNat, Int.reduceLT, Int.reduceLE, Int.reduceAdd, Int.reduceSub, Int.reduceMul, Int.reduceEq, Int.reduceNeg, reduceCtorEq, or_false, false_or, decide_true, decide_false, Int.cast_ofNat_Int, Nat.zero_add, Nat.add_zero, Int.toNat_natCast, Option.isNone_none, Option.isNone_some, Bool.not_true, Bool.not_false, Bool.xor_true, Bool.xor_false, Bool.true_xor, Bool.false_xor, decide_true, decide_false, Bool.and_true, Bool.true_and, Bool.and_false, Bool.false_and, eq_self, ne_eq, not_false_eq_true, not_true_eq_false, true_and, and_true, and_self, wrapI64, wrapu64, wrapu32, wrapu8, ltT, ltF, leT, leF, eqF, eqT, nltT, nleT, neqFn, ob, rb]
    refine ⟨?_, ?_⟩
    all_goals
      refine sbytes2 rfl tkind9 tkind110 tint5 ⟨by show (17 : Nat) < 25; omega, fun c2 hc2 => ?_⟩
      rw [ha]
      simp (disch := omega) only [go_sem, ↓reduceIte, Nat.reduceEqDiff, Nat.reduceLT, Nat.reduceLeDiff, Nat.reduceAdd, Nat.reduceMul, Nat.reduceSub, Nat.reduceDiv, Nat.reduceMod, Int.reduceToNat, Int.reduceLT, Int.reduceLE, Int.reduceAdd, Int.reduceSub, Int.reduceMul, Int.reduceEq, Int.reduceNeg, reduceCtorEq, or_false, false_or, decide_true, decide_false, Int.cast_ofNat_Int, Nat.zero_add, Nat.add_zero, Int.toNat_natCast, Option.isNone_none, Option.isNone_some, Bool.not_true, Bool.not_false, Bool.xor_true, Bool.xor_false, Bool.true_xor, Bool.false_xor, decide_true, decide_false, Bool.and_true, Bool.true_and, Bool.and_false, Bool.false_and, eq_self, ne_eq, not_false_eq_true, not_true_eq_false, true_and, and_true, and_self, wrapI64, wrapu64, wrapu32, wrapu8, ltT, ltF, leT, leF, eqF, eqT, nltT, nleT, neqFn, oa, ra, ob, rb, he]
      first | exact fun ρ a w hs _ => ⟨rfl, hs.grown⟩ | exact ⟨fun ρ a w hs _ => ⟨rfl, hs.grown⟩, fun ρ a w hs _ => ⟨rfl, hs.grown⟩⟩
theorem equal_s {C : Cx} {fr : List (Nat × SV)} {hp : List (Nat × Blk)} {nx : Nat} {d : Option Tmp} {K : St → Prop} {a b : ByteArray} (h : dOk C.N d ∧ kput K ⟨fr, hp, nx⟩ d (.c (.v (.bool (decide (a = b)))))) : SCall Try.prog C 41 [.c (.v (.string a)), .c (.v (.string b))] d K ⟨fr, hp, nx⟩ :=
  scall_pure [.string a, .string b] _ (.bool (decide (a = b))) Try.call41 (equal_c a b) rfl (fun _ => rfl) (fun _ => rfl) h
end Go.Proofs.Ytbdffcgbleiiaaa
