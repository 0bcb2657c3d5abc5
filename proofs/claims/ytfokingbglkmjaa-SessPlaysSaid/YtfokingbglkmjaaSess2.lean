/-
  The functions on a table of sessions. Conditions: none.
-/
import Derived.Test.YtfokingbglkmjaaSess
namespace Go.Proofs.Ytfokingbglkmjaa
open Go.RowKit Go.Sx
set_option linter.unusedVariables false
set_option linter.unusedSimpArgs false
abbrev ptr (g : Nat) : Value := .pointer (some ⟨g, 0, none⟩)
def inS (id : Int) : Bool := decide (1 ≤ id) && decide (id ≤ 8)
def beginE (T : Nat → One) (id : Int) (v : V4) : Int := if inS id && v.right then (if (T id.toNat).op.isSome then 6 else 0) else 1
def beginT (T : Nat → One) (id : Int) (v : V4) : Nat → One := if inS id && v.right && (T id.toNat).op.isNone then upd T id.toNat ⟨(T id.toNat).seen, some (v, [])⟩ else T

theorem row_upd {T : Nat → One} {S : Nat → Option (Nat × Nat)} {k : Nat} {o : One} {s : Option (Nat × Nat)} {l : List CV} {ρ : Env} (h : l.map (CV.den ρ) = o.row s) (i : Nat) : (rupd (fun i => ((T i).row (S i)).map CV.v) k l i).map (CV.den ρ) = (upd T k o i).row (upd S k s i) := by
  unfold rupd upd
  by_cases hi : i = k
  · simp [hi, h]
  · simp only [hi, if_false]; exact map_v _ _
theorem inS_of {id : Int} (h : ¬ id < 1) (h2 : ¬ 8 < id) : inS id = true ∧ ∃ k : Nat, id = k ∧ 1 ≤ k ∧ k < 9 := ⟨by simp [inS]; omega, id.toNat, by omega, by omega, by omega⟩

theorem begin_c (g : Nat) (T : Nat → One) (fp : List Nat) (id : Int) (v : V4) (w : World) (ht : TabIs g T fp w) :
    Calls Try.prog 19 #[ptr g, .int .i64 id, v.v] w (Turns g fp (.int .i64 (beginE T id v)) (beginT T id v) w) := by
  refine tab_calls ht 31 _ Try.func19 rfl Try.ntmps19 Try.results19 [.c (.p 0 0 0), .c (.v (.int .i64 id)), sv4 v.a v.b v.c v.d] (by simp) (fun ρ h => by simp [SV.denL, SV.den, CV.den, CV.denL, h]) fun S hS hfp => ?_
  by_cases h1 : id < 1
  · have d1 : decide (id < 1) = true := by simp [h1]
    have d2 : inS id = false := by simp [inS]; omega
    simp only [go_sem, ↓reduceIte, Nat.reduceEqDiff, Nat.reduceLT, Nat.reduceLeDiff, Nat.reduceAdd, Nat.reduceMul, Nat.reduceSub, Nat.reduceDiv, Nat.reduceMod, Int.reduceToNat, Int.reduceLT, Int.reduceLE, Int.reduceAdd, Int.reduceSub, Int.reduceMul, Int.reduceEq, Int.reduceNeg, reduceCtorEq, or_false, false_or, decide_true, decide_false, Int.cast_ofNat_Int, Nat.zero_add, Nat.add_zero, Int.toNat_natCast, Option.isNone_none, Option.isNone_some, Bool.not_true, Bool.not_false, Bool.xor_true, Bool.xor_false, Bool.true_xor, Bool.false_xor, decide_true, decide_false, Bool.and_true, Bool.true_and, Bool.and_false, Bool.false_and, eq_self, ne_eq, not_false_eq_true, not_true_eq_false, true_and, and_true, and_self]
    refine scall_in 16 _ Try.func81 rfl Try.ntmps81 Try.results81 Try.call81 ?_
    simp only [go_sem, ↓reduceIte, Nat.reduceEqDiff, Nat.reduceLT, Nat.reduceLeDiff, Nat.reduceAdd, Nat.reduceMul, Nat.reduceSub, Nat.reduceDiv, Nat.reduceMod, Int.reduceToNat, Int.reduceLT, Int.reduceLE, Int.reduceAdd, Int.reduceSub, Int.reduceMul, Int.reduceEq, Int.reduceNeg, reduceCtorEq, or_false, false_or, decide_true, decide_false, Int.cast_ofNat_Int, Nat.zero_add, Nat.add_zero, Int.toNat_natCast, Option.isNone_none, Option.isNone_some, Bool.not_true, Bool.not_false, Bool.xor_true, Bool.xor_false, Bool.true_xor, Bool.false_xor, decide_true, decide_false, Bool.and_true, Bool.true_and, Bool.and_false, Bool.false_and, eq_self, ne_eq, not_false_eq_true, not_true_eq_false, true_and, and_true, and_self, d1]
    refine fun ρ a w' hs hag => ?_
    obtain ⟨fp', h1, h2⟩ := tab_ends (T' := T) (S' := S) hS hfp hs hag rfl rfl (fun i _ => map_v _ _) (fun i _ => .inl ⟨rfl, rfl⟩)
    exact ⟨fp', by simp [SV.den, CV.den, beginE, d2], by simpa [beginT, d2] using h1, h2⟩
  by_cases h2 : 8 < id
  · have d1 : decide (id < 1) = false := by simp [h1]
    have d3 : decide (8 < id) = true := by simp [h2]
    have d2 : inS id = false := by simp [inS]; omega
    simp only [go_sem, ↓reduceIte, Nat.reduceEqDiff, Nat.reduceLT, Nat.reduceLeDiff, Nat.reduceAdd, Nat.reduceMul, Nat.reduceSub, Nat.reduceDiv, Nat.reduceMod, Int.reduceToNat, Int.reduceLT, Int.reduceLE, Int.reduceAdd, Int.reduceSub, Int.reduceMul, Int.reduceEq, Int.reduceNeg, reduceCtorEq, or_false, false_or, decide_true, decide_false, Int.cast_ofNat_Int, Nat.zero_add, Nat.add_zero, Int.toNat_natCast, Option.isNone_none, Option.isNone_some, Bool.not_true, Bool.not_false, Bool.xor_true, Bool.xor_false, Bool.true_xor, Bool.false_xor, decide_true, decide_false, Bool.and_true, Bool.true_and, Bool.and_false, Bool.false_and, eq_self, ne_eq, not_false_eq_true, not_true_eq_false, true_and, and_true, and_self]
    refine scall_in 16 _ Try.func81 rfl Try.ntmps81 Try.results81 Try.call81 ?_
    simp only [go_sem, ↓reduceIte, Nat.reduceEqDiff, Nat.reduceLT, Nat.reduceLeDiff, Nat.reduceAdd, Nat.reduceMul, Nat.reduceSub, Nat.reduceDiv, Nat.reduceMod, Int.reduceToNat, Int.reduceLT, Int.reduceLE, Int.reduceAdd, Int.reduceSub, Int.reduceMul, Int.reduceEq, Int.reduceNeg, reduceCtorEq, or_false, false_or, decide_true, decide_false, Int.cast_ofNat_Int, Nat.zero_add, Nat.add_zero, Int.toNat_natCast, Option.isNone_none, Option.isNone_some, Bool.not_true, Bool.not_false, Bool.xor_true, Bool.xor_false, Bool.true_xor, Bool.false_xor, decide_true, decide_false, Bool.and_true, Bool.true_and, Bool.and_false, Bool.false_and, eq_self, ne_eq, not_false_eq_true, not_true_eq_false, true_and, and_true, and_self, d1, d3]
    refine fun ρ a w' hs hag => ?_
    obtain ⟨fp', h1, h2⟩ := tab_ends (T' := T) (S' := S) hS hfp hs hag rfl rfl (fun i _ => map_v _ _) (fun i _ => .inl ⟨rfl, rfl⟩)
    exact ⟨fp', by simp [SV.den, CV.den, beginE, d2], by simpa [beginT, d2] using h1, h2⟩
  obtain ⟨d2, k, rfl, hk1, hk⟩ := inS_of h1 h2
  have d1 : decide ((k : Int) < 1) = false := by simp [h1]
  have d3 : decide (8 < (k : Int)) = false := by simp [h2]
  have d4 : (0 : Int) ≤ k ∧ (k : Int) < 9 := by omega
  have hrow := row_eq T S k
  simp only [go_sem, ↓reduceIte, Nat.reduceEqDiff, Nat.reduceLT, Nat.reduceLeDiff, Nat.reduceAdd, Nat.reduceMul, Nat.reduceSub, Nat.reduceDiv, Nat.reduceMod, Int.reduceToNat, Int.reduceLT, Int.reduceLE, Int.reduceAdd, Int.reduceSub, Int.reduceMul, Int.reduceEq, Int.reduceNeg, reduceCtorEq, or_false, false_or, decide_true, decide_false, Int.cast_ofNat_Int, Nat.zero_add, Nat.add_zero, Int.toNat_natCast, Option.isNone_none, Option.isNone_some, Bool.not_true, Bool.not_false, Bool.xor_true, Bool.xor_false, Bool.true_xor, Bool.false_xor, decide_true, decide_false, Bool.and_true, Bool.true_and, Bool.and_false, Bool.false_and, eq_self, ne_eq, not_false_eq_true, not_true_eq_false, true_and, and_true, and_self]
  refine scall_in 16 _ Try.func81 rfl Try.ntmps81 Try.results81 Try.call81 ?_
  simp only [go_sem, ↓reduceIte, Nat.reduceEqDiff, Nat.reduceLT, Nat.reduceLeDiff, Nat.reduceAdd, Nat.reduceMul, Nat.reduceSub, Nat.reduceDiv, Nat.reduceMod, Int.reduceToNat, Int.reduceLT, Int.reduceLE, Int.reduceAdd, Int.reduceSub, Int.reduceMul, Int.reduceEq, Int.reduceNeg, reduceCtorEq, or_false, false_or, decide_true, decide_false, Int.cast_ofNat_Int, Nat.zero_add, Nat.add_zero, Int.toNat_natCast, Option.isNone_none, Option.isNone_some, Bool.not_true, Bool.not_false, Bool.xor_true, Bool.xor_false, Bool.true_xor, Bool.false_xor, decide_true, decide_false, Bool.and_true, Bool.true_and, Bool.and_false, Bool.false_and, eq_self, ne_eq, not_false_eq_true, not_true_eq_false, true_and, and_true, and_self, d1, d3, d4]
  refine scall_pure [v.v] (.c (.v (.bool _))) (.bool _) Try.call40 (right_c v) rfl (fun _ => rfl) (fun _ => rfl) ?_
  cases hv : v.right
  · simp only [go_sem, ↓reduceIte, Nat.reduceEqDiff, Nat.reduceLT, Nat.reduceLeDiff, Nat.reduceAdd, Nat.reduceMul, Nat.reduceSub, Nat.reduceDiv, Nat.reduceMod, Int.reduceToNat, Int.reduceLT, Int.reduceLE, Int.reduceAdd, Int.reduceSub, Int.reduceMul, Int.reduceEq, Int.reduceNeg, reduceCtorEq, or_false, false_or, decide_true, decide_false, Int.cast_ofNat_Int, Nat.zero_add, Nat.add_zero, Int.toNat_natCast, Option.isNone_none, Option.isNone_some, Bool.not_true, Bool.not_false, Bool.xor_true, Bool.xor_false, Bool.true_xor, Bool.false_xor, decide_true, decide_false, Bool.and_true, Bool.true_and, Bool.and_false, Bool.false_and, eq_self, ne_eq, not_false_eq_true, not_true_eq_false, true_and, and_true, and_self]
    refine fun ρ a w' hs hag => ?_
    obtain ⟨fp', h1, h2⟩ := tab_ends (T' := T) (S' := S) hS hfp hs hag rfl rfl (fun i _ => map_v _ _) (fun i _ => .inl ⟨rfl, rfl⟩)
    exact ⟨fp', by simp [SV.den, CV.den, beginE, d2, hv], by simpa [beginT, d2, hv] using h1, h2⟩
  rcases hT : (T k).op with _ | ⟨p, ws⟩
  · have hi : (T k).is = false := by simp [One.is, hT]
    simp only [go_sem, ↓reduceIte, Nat.reduceEqDiff, Nat.reduceLT, Nat.reduceLeDiff, Nat.reduceAdd, Nat.reduceMul, Nat.reduceSub, Nat.reduceDiv, Nat.reduceMod, Int.reduceToNat, Int.reduceLT, Int.reduceLE, Int.reduceAdd, Int.reduceSub, Int.reduceMul, Int.reduceEq, Int.reduceNeg, reduceCtorEq, or_false, false_or, decide_true, decide_false, Int.cast_ofNat_Int, Nat.zero_add, Nat.add_zero, Int.toNat_natCast, Option.isNone_none, Option.isNone_some, Bool.not_true, Bool.not_false, Bool.xor_true, Bool.xor_false, Bool.true_xor, Bool.false_xor, decide_true, decide_false, Bool.and_true, Bool.true_and, Bool.and_false, Bool.false_and, eq_self, ne_eq, not_false_eq_true, not_true_eq_false, true_and, and_true, and_self, hrow, hk, hi]
    refine fun ρ a w' hs hag => ?_
    obtain ⟨fp', h1, h2⟩ := tab_ends (T' := upd T k ⟨(T k).seen, some (v, [])⟩) (S' := upd S k none) hS hfp hs hag rfl rfl (fun i _ => row_upd (o := ⟨(T k).seen, some (v, [])⟩) (by rfl) i) (fun i _ => by
      by_cases hi : i = k
      · exact .inr (by simp [hi, upd, One.ws])
      · exact .inl (by simp [hi, upd]))
    exact ⟨fp', by simp [SV.den, CV.den, beginE, d2, hv, hT], by simpa [beginT, d2, hv, hT] using h1, h2⟩
  · have hi : (T k).is = true := by simp [One.is, hT]
    simp only [go_sem, ↓reduceIte, Nat.reduceEqDiff, Nat.reduceLT, Nat.reduceLeDiff, Nat.reduceAdd, Nat.reduceMul, Nat.reduceSub, Nat.reduceDiv, Nat.reduceMod, Int.reduceToNat, Int.reduceLT, Int.reduceLE, Int.reduceAdd, Int.reduceSub, Int.reduceMul, Int.reduceEq, Int.reduceNeg, reduceCtorEq, or_false, false_or, decide_true, decide_false, Int.cast_ofNat_Int, Nat.zero_add, Nat.add_zero, Int.toNat_natCast, Option.isNone_none, Option.isNone_some, Bool.not_true, Bool.not_false, Bool.xor_true, Bool.xor_false, Bool.true_xor, Bool.false_xor, decide_true, decide_false, Bool.and_true, Bool.true_and, Bool.and_false, Bool.false_and, eq_self, ne_eq, not_false_eq_true, not_true_eq_false, true_and, and_true, and_self, hrow, hk, hi]
    refine fun ρ a w' hs hag => ?_
    obtain ⟨fp', h1, h2⟩ := tab_ends (T' := T) (S' := S) hS hfp hs hag rfl rfl (fun i _ => map_v _ _) (fun i _ => .inl ⟨rfl, rfl⟩)
    exact ⟨fp', by simp [SV.den, CV.den, beginE, d2, hv, hT], by simpa [beginT, d2, hv, hT] using h1, h2⟩

def seeE (id : Int) (v : V4) : Bool := inS id && v.right
def seeT (T : Nat → One) (id : Int) (v : V4) : Nat → One := if inS id && v.right then upd T id.toNat ⟨(T id.toNat).seen.join v, (T id.toNat).op⟩ else T
theorem see_c (g : Nat) (T : Nat → One) (fp : List Nat) (id : Int) (v : V4) (w : World) (ht : TabIs g T fp w) :
    Calls Try.prog 23 #[ptr g, .int .i64 id, v.v] w (Turns g fp (.bool (seeE id v)) (seeT T id v) w) := by
  refine tab_calls ht 27 _ Try.func23 rfl Try.ntmps23 Try.results23 [.c (.p 0 0 0), .c (.v (.int .i64 id)), sv4 v.a v.b v.c v.d] (by simp) (fun ρ h => by simp [SV.denL, SV.den, CV.den, CV.denL, h]) fun S hS hfp => ?_
  by_cases h1 : id < 1
  · have d1 : decide (id < 1) = true := by simp [h1]
    have d2 : inS id = false := by simp [inS]; omega
    simp only [go_sem, ↓reduceIte, Nat.reduceEqDiff, Nat.reduceLT, Nat.reduceLeDiff, Nat.reduceAdd, Nat.reduceMul, Nat.reduceSub, Nat.reduceDiv, Nat.reduceMod, Int.reduceToNat, Int.reduceLT, Int.reduceLE, Int.reduceAdd, Int.reduceSub, Int.reduceMul, Int.reduceEq, Int.reduceNeg, reduceCtorEq, or_false, false_or, decide_true, decide_false, Int.cast_ofNat_Int, Nat.zero_add, Nat.add_zero, Int.toNat_natCast, Option.isNone_none, Option.isNone_some, Bool.not_true, Bool.not_false, Bool.xor_true, Bool.xor_false, Bool.true_xor, Bool.false_xor, decide_true, decide_false, Bool.and_true, Bool.true_and, Bool.and_false, Bool.false_and, eq_self, ne_eq, not_false_eq_true, not_true_eq_false, true_and, and_true, and_self]
    refine scall_in 16 _ Try.func81 rfl Try.ntmps81 Try.results81 Try.call81 ?_
    simp only [go_sem, ↓reduceIte, Nat.reduceEqDiff, Nat.reduceLT, Nat.reduceLeDiff, Nat.reduceAdd, Nat.reduceMul, Nat.reduceSub, Nat.reduceDiv, Nat.reduceMod, Int.reduceToNat, Int.reduceLT, Int.reduceLE, Int.reduceAdd, Int.reduceSub, Int.reduceMul, Int.reduceEq, Int.reduceNeg, reduceCtorEq, or_false, false_or, decide_true, decide_false, Int.cast_ofNat_Int, Nat.zero_add, Nat.add_zero, Int.toNat_natCast, Option.isNone_none, Option.isNone_some, Bool.not_true, Bool.not_false, Bool.xor_true, Bool.xor_false, Bool.true_xor, Bool.false_xor, decide_true, decide_false, Bool.and_true, Bool.true_and, Bool.and_false, Bool.false_and, eq_self, ne_eq, not_false_eq_true, not_true_eq_false, true_and, and_true, and_self, d1]
    refine fun ρ a w' hs hag => ?_
    obtain ⟨fp', h1, h2⟩ := tab_ends (T' := T) (S' := S) hS hfp hs hag rfl rfl (fun i _ => map_v _ _) (fun i _ => .inl ⟨rfl, rfl⟩)
    exact ⟨fp', by simp [SV.den, CV.den, seeE, d2], by simpa [seeT, d2] using h1, h2⟩
  by_cases h2 : 8 < id
  · have d1 : decide (id < 1) = false := by simp [h1]
    have d3 : decide (8 < id) = true := by simp [h2]
    have d2 : inS id = false := by simp [inS]; omega
    simp only [go_sem, ↓reduceIte, Nat.reduceEqDiff, Nat.reduceLT, Nat.reduceLeDiff, Nat.reduceAdd, Nat.reduceMul, Nat.reduceSub, Nat.reduceDiv, Nat.reduceMod, Int.reduceToNat, Int.reduceLT, Int.reduceLE, Int.reduceAdd, Int.reduceSub, Int.reduceMul, Int.reduceEq, Int.reduceNeg, reduceCtorEq, or_false, false_or, decide_true, decide_false, Int.cast_ofNat_Int, Nat.zero_add, Nat.add_zero, Int.toNat_natCast, Option.isNone_none, Option.isNone_some, Bool.not_true, Bool.not_false, Bool.xor_true, Bool.xor_false, Bool.true_xor, Bool.false_xor, decide_true, decide_false, Bool.and_true, Bool.true_and, Bool.and_false, Bool.false_and, eq_self, ne_eq, not_false_eq_true, not_true_eq_false, true_and, and_true, and_self]
    refine scall_in 16 _ Try.func81 rfl Try.ntmps81 Try.results81 Try.call81 ?_
    simp only [go_sem, ↓reduceIte, Nat.reduceEqDiff, Nat.reduceLT, Nat.reduceLeDiff, Nat.reduceAdd, Nat.reduceMul, Nat.reduceSub, Nat.reduceDiv, Nat.reduceMod, Int.reduceToNat, Int.reduceLT, Int.reduceLE, Int.reduceAdd, Int.reduceSub, Int.reduceMul, Int.reduceEq, Int.reduceNeg, reduceCtorEq, or_false, false_or, decide_true, decide_false, Int.cast_ofNat_Int, Nat.zero_add, Nat.add_zero, Int.toNat_natCast, Option.isNone_none, Option.isNone_some, Bool.not_true, Bool.not_false, Bool.xor_true, Bool.xor_false, Bool.true_xor, Bool.false_xor, decide_true, decide_false, Bool.and_true, Bool.true_and, Bool.and_false, Bool.false_and, eq_self, ne_eq, not_false_eq_true, not_true_eq_false, true_and, and_true, and_self, d1, d3]
    refine fun ρ a w' hs hag => ?_
    obtain ⟨fp', h1, h2⟩ := tab_ends (T' := T) (S' := S) hS hfp hs hag rfl rfl (fun i _ => map_v _ _) (fun i _ => .inl ⟨rfl, rfl⟩)
    exact ⟨fp', by simp [SV.den, CV.den, seeE, d2], by simpa [seeT, d2] using h1, h2⟩
  obtain ⟨d2, k, rfl, hk1, hk⟩ := inS_of h1 h2
  have d1 : decide ((k : Int) < 1) = false := by simp [h1]
  have d3 : decide (8 < (k : Int)) = false := by simp [h2]
  have d4 : (0 : Int) ≤ k ∧ (k : Int) < 9 := by omega
  have hrow := row_eq T S k
  simp only [go_sem, ↓reduceIte, Nat.reduceEqDiff, Nat.reduceLT, Nat.reduceLeDiff, Nat.reduceAdd, Nat.reduceMul, Nat.reduceSub, Nat.reduceDiv, Nat.reduceMod, Int.reduceToNat, Int.reduceLT, Int.reduceLE, Int.reduceAdd, Int.reduceSub, Int.reduceMul, Int.reduceEq, Int.reduceNeg, reduceCtorEq, or_false, false_or, decide_true, decide_false, Int.cast_ofNat_Int, Nat.zero_add, Nat.add_zero, Int.toNat_natCast, Option.isNone_none, Option.isNone_some, Bool.not_true, Bool.not_false, Bool.xor_true, Bool.xor_false, Bool.true_xor, Bool.false_xor, decide_true, decide_false, Bool.and_true, Bool.true_and, Bool.and_false, Bool.false_and, eq_self, ne_eq, not_false_eq_true, not_true_eq_false, true_and, and_true, and_self]
  refine scall_in 16 _ Try.func81 rfl Try.ntmps81 Try.results81 Try.call81 ?_
  simp only [go_sem, ↓reduceIte, Nat.reduceEqDiff, Nat.reduceLT, Nat.reduceLeDiff, Nat.reduceAdd, Nat.reduceMul, Nat.reduceSub, Nat.reduceDiv, Nat.reduceMod, Int.reduceToNat, Int.reduceLT, Int.reduceLE, Int.reduceAdd, Int.reduceSub, Int.reduceMul, Int.reduceEq, Int.reduceNeg, reduceCtorEq, or_false, false_or, decide_true, decide_false, Int.cast_ofNat_Int, Nat.zero_add, Nat.add_zero, Int.toNat_natCast, Option.isNone_none, Option.isNone_some, Bool.not_true, Bool.not_false, Bool.xor_true, Bool.xor_false, Bool.true_xor, Bool.false_xor, decide_true, decide_false, Bool.and_true, Bool.true_and, Bool.and_false, Bool.false_and, eq_self, ne_eq, not_false_eq_true, not_true_eq_false, true_and, and_true, and_self, d1, d3, d4]
  refine scall_pure [v.v] (.c (.v (.bool _))) (.bool _) Try.call40 (right_c v) rfl (fun _ => rfl) (fun _ => rfl) ?_
  cases hv : v.right
  · simp only [go_sem, ↓reduceIte, Nat.reduceEqDiff, Nat.reduceLT, Nat.reduceLeDiff, Nat.reduceAdd, Nat.reduceMul, Nat.reduceSub, Nat.reduceDiv, Nat.reduceMod, Int.reduceToNat, Int.reduceLT, Int.reduceLE, Int.reduceAdd, Int.reduceSub, Int.reduceMul, Int.reduceEq, Int.reduceNeg, reduceCtorEq, or_false, false_or, decide_true, decide_false, Int.cast_ofNat_Int, Nat.zero_add, Nat.add_zero, Int.toNat_natCast, Option.isNone_none, Option.isNone_some, Bool.not_true, Bool.not_false, Bool.xor_true, Bool.xor_false, Bool.true_xor, Bool.false_xor, decide_true, decide_false, Bool.and_true, Bool.true_and, Bool.and_false, Bool.false_and, eq_self, ne_eq, not_false_eq_true, not_true_eq_false, true_and, and_true, and_self]
    refine fun ρ a w' hs hag => ?_
    obtain ⟨fp', h1, h2⟩ := tab_ends (T' := T) (S' := S) hS hfp hs hag rfl rfl (fun i _ => map_v _ _) (fun i _ => .inl ⟨rfl, rfl⟩)
    exact ⟨fp', by simp [SV.den, CV.den, seeE, d2, hv], by simpa [seeT, d2, hv] using h1, h2⟩
  simp only [go_sem, ↓reduceIte, Nat.reduceEqDiff, Nat.reduceLT, Nat.reduceLeDiff, Nat.reduceAdd, Nat.reduceMul, Nat.reduceSub, Nat.reduceDiv, Nat.reduceMod, Int.reduceToNat, Int.reduceLT, Int.reduceLE, Int.reduceAdd, Int.reduceSub, Int.reduceMul, Int.reduceEq, Int.reduceNeg, reduceCtorEq, or_false, false_or, decide_true, decide_false, Int.cast_ofNat_Int, Nat.zero_add, Nat.add_zero, Int.toNat_natCast, Option.isNone_none, Option.isNone_some, Bool.not_true, Bool.not_false, Bool.xor_true, Bool.xor_false, Bool.true_xor, Bool.false_xor, decide_true, decide_false, Bool.and_true, Bool.true_and, Bool.and_false, Bool.false_and, eq_self, ne_eq, not_false_eq_true, not_true_eq_false, true_and, and_true, and_self]
  refine sdraw0 [.t 0, .t 1, .t 2, .t 3, .t 4, .t 5, .r 6, .t 7, .t 8, .r 9] 9 rfl (by kernel_rfl) ?_
  simp only [go_sem, ↓reduceIte, Nat.reduceEqDiff, Nat.reduceLT, Nat.reduceLeDiff, Nat.reduceAdd, Nat.reduceMul, Nat.reduceSub, Nat.reduceDiv, Nat.reduceMod, Int.reduceToNat, Int.reduceLT, Int.reduceLE, Int.reduceAdd, Int.reduceSub, Int.reduceMul, Int.reduceEq, Int.reduceNeg, reduceCtorEq, or_false, false_or, decide_true, decide_false, Int.cast_ofNat_Int, Nat.zero_add, Nat.add_zero, Int.toNat_natCast, Option.isNone_none, Option.isNone_some, Bool.not_true, Bool.not_false, Bool.xor_true, Bool.xor_false, Bool.true_xor, Bool.false_xor, decide_true, decide_false, Bool.and_true, Bool.true_and, Bool.and_false, Bool.false_and, eq_self, ne_eq, not_false_eq_true, not_true_eq_false, true_and, and_true, and_self, hrow, hk]
  refine scall_pure [vec4 _ _ _ _, vec4 _ _ _ _] (sv4 _ _ _ _) (vec4 _ _ _ _) Try.call45 (join_c ⟨_, _, _, _⟩ ⟨_, _, _, _⟩) rfl (fun _ => rfl) (fun _ => rfl) ?_
  simp only [go_sem, ↓reduceIte, Nat.reduceEqDiff, Nat.reduceLT, Nat.reduceLeDiff, Nat.reduceAdd, Nat.reduceMul, Nat.reduceSub, Nat.reduceDiv, Nat.reduceMod, Int.reduceToNat, Int.reduceLT, Int.reduceLE, Int.reduceAdd, Int.reduceSub, Int.reduceMul, Int.reduceEq, Int.reduceNeg, reduceCtorEq, or_false, false_or, decide_true, decide_false, Int.cast_ofNat_Int, Nat.zero_add, Nat.add_zero, Int.toNat_natCast, Option.isNone_none, Option.isNone_some, Bool.not_true, Bool.not_false, Bool.xor_true, Bool.xor_false, Bool.true_xor, Bool.false_xor, decide_true, decide_false, Bool.and_true, Bool.true_and, Bool.and_false, Bool.false_and, eq_self, ne_eq, not_false_eq_true, not_true_eq_false, true_and, and_true, and_self, hrow, hk]
  refine fun ρ a w' hs hag => ?_
  obtain ⟨fp', h1, h2⟩ := tab_ends (T' := upd T k ⟨(T k).seen.join v, (T k).op⟩) (S' := upd S k (S k)) hS hfp hs hag rfl rfl (fun i _ => row_upd (o := ⟨(T k).seen.join v, (T k).op⟩) (by rfl) i) (fun i _ => by
    by_cases hi : i = k
    · exact .inl (by simp [hi, upd, One.ws])
    · exact .inl (by simp [hi, upd]))
  exact ⟨fp', by simp [SV.den, CV.den, seeE, d2, hv], by simpa [seeT, d2, hv] using h1, h2⟩

def endE (T : Nat → One) (id : Int) : Int := if inS id && (T id.toNat).is then 0 else 5
def endT (T : Nat → One) (id : Int) : Nat → One := if inS id && (T id.toNat).is then upd T id.toNat ⟨(T id.toNat).seen, none⟩ else T
theorem end_c (g : Nat) (T : Nat → One) (fp : List Nat) (id : Int) (w : World) (ht : TabIs g T fp w) :
    Calls Try.prog 21 #[ptr g, .int .i64 id] w (Turns g fp (.int .i64 (endE T id)) (endT T id) w) := by
  refine tab_calls ht 15 _ Try.func21 rfl Try.ntmps21 Try.results21 [.c (.p 0 0 0), .c (.v (.int .i64 id))] (by simp) (fun ρ h => by simp [SV.denL, SV.den, CV.den, CV.denL, h]) fun S hS hfp => ?_
  by_cases h1 : id < 1
  · have d1 : decide (id < 1) = true := by simp [h1]
    have d2 : inS id = false := by simp [inS]; omega
    simp only [go_sem, ↓reduceIte, Nat.reduceEqDiff, Nat.reduceLT, Nat.reduceLeDiff, Nat.reduceAdd, Nat.reduceMul, Nat.reduceSub, Nat.reduceDiv, Nat.reduceMod, Int.reduceToNat, Int.reduceLT, Int.reduceLE, Int.reduceAdd, Int.reduceSub, Int.reduceMul, Int.reduceEq, Int.reduceNeg, reduceCtorEq, or_false, false_or, decide_true, decide_false, Int.cast_ofNat_Int, Nat.zero_add, Nat.add_zero, Int.toNat_natCast, Option.isNone_none, Option.isNone_some, Bool.not_true, Bool.not_false, Bool.xor_true, Bool.xor_false, Bool.true_xor, Bool.false_xor, decide_true, decide_false, Bool.and_true, Bool.true_and, Bool.and_false, Bool.false_and, eq_self, ne_eq, not_false_eq_true, not_true_eq_false, true_and, and_true, and_self]
    refine scall_in 23 _ Try.func84 rfl Try.ntmps84 Try.results84 Try.call84 ?_
    simp only [go_sem, ↓reduceIte, Nat.reduceEqDiff, Nat.reduceLT, Nat.reduceLeDiff, Nat.reduceAdd, Nat.reduceMul, Nat.reduceSub, Nat.reduceDiv, Nat.reduceMod, Int.reduceToNat, Int.reduceLT, Int.reduceLE, Int.reduceAdd, Int.reduceSub, Int.reduceMul, Int.reduceEq, Int.reduceNeg, reduceCtorEq, or_false, false_or, decide_true, decide_false, Int.cast_ofNat_Int, Nat.zero_add, Nat.add_zero, Int.toNat_natCast, Option.isNone_none, Option.isNone_some, Bool.not_true, Bool.not_false, Bool.xor_true, Bool.xor_false, Bool.true_xor, Bool.false_xor, decide_true, decide_false, Bool.and_true, Bool.true_and, Bool.and_false, Bool.false_and, eq_self, ne_eq, not_false_eq_true, not_true_eq_false, true_and, and_true, and_self, d1]
    refine scall_in 16 _ Try.func81 rfl Try.ntmps81 Try.results81 Try.call81 ?_
    simp only [go_sem, ↓reduceIte, Nat.reduceEqDiff, Nat.reduceLT, Nat.reduceLeDiff, Nat.reduceAdd, Nat.reduceMul, Nat.reduceSub, Nat.reduceDiv, Nat.reduceMod, Int.reduceToNat, Int.reduceLT, Int.reduceLE, Int.reduceAdd, Int.reduceSub, Int.reduceMul, Int.reduceEq, Int.reduceNeg, reduceCtorEq, or_false, false_or, decide_true, decide_false, Int.cast_ofNat_Int, Nat.zero_add, Nat.add_zero, Int.toNat_natCast, Option.isNone_none, Option.isNone_some, Bool.not_true, Bool.not_false, Bool.xor_true, Bool.xor_false, Bool.true_xor, Bool.false_xor, decide_true, decide_false, Bool.and_true, Bool.true_and, Bool.and_false, Bool.false_and, eq_self, ne_eq, not_false_eq_true, not_true_eq_false, true_and, and_true, and_self, d1]
    refine fun ρ a w' hs hag => ?_
    obtain ⟨fp', h1, h2⟩ := tab_ends (T' := T) (S' := S) hS hfp hs hag rfl rfl (fun i _ => map_v _ _) (fun i _ => .inl ⟨rfl, rfl⟩)
    exact ⟨fp', by simp [SV.den, CV.den, endE, d2], by simpa [endT, d2] using h1, h2⟩
  by_cases h2 : 8 < id
  · have d1 : decide (id < 1) = false := by simp [h1]
    have d3 : decide (8 < id) = true := by simp [h2]
    have d2 : inS id = false := by simp [inS]; omega
    simp only [go_sem, ↓reduceIte, Nat.reduceEqDiff, Nat.reduceLT, Nat.reduceLeDiff, Nat.reduceAdd, Nat.reduceMul, Nat.reduceSub, Nat.reduceDiv, Nat.reduceMod, Int.reduceToNat, Int.reduceLT, Int.reduceLE, Int.reduceAdd, Int.reduceSub, Int.reduceMul, Int.reduceEq, Int.reduceNeg, reduceCtorEq, or_false, false_or, decide_true, decide_false, Int.cast_ofNat_Int, Nat.zero_add, Nat.add_zero, Int.toNat_natCast, Option.isNone_none, Option.isNone_some, Bool.not_true, Bool.not_false, Bool.xor_true, Bool.xor_false, Bool.true_xor, Bool.false_xor, decide_true, decide_false, Bool.and_true, Bool.true_and, Bool.and_false, Bool.false_and, eq_self, ne_eq, not_false_eq_true, not_true_eq_false, true_and, and_true, and_self]
    refine scall_in 23 _ Try.func84 rfl Try.ntmps84 Try.results84 Try.call84 ?_
    simp only [go_sem, ↓reduceIte, Nat.reduceEqDiff, Nat.reduceLT, Nat.reduceLeDiff, Nat.reduceAdd, Nat.reduceMul, Nat.reduceSub, Nat.reduceDiv, Nat.reduceMod, Int.reduceToNat, Int.reduceLT, Int.reduceLE, Int.reduceAdd, Int.reduceSub, Int.reduceMul, Int.reduceEq, Int.reduceNeg, reduceCtorEq, or_false, false_or, decide_true, decide_false, Int.cast_ofNat_Int, Nat.zero_add, Nat.add_zero, Int.toNat_natCast, Option.isNone_none, Option.isNone_some, Bool.not_true, Bool.not_false, Bool.xor_true, Bool.xor_false, Bool.true_xor, Bool.false_xor, decide_true, decide_false, Bool.and_true, Bool.true_and, Bool.and_false, Bool.false_and, eq_self, ne_eq, not_false_eq_true, not_true_eq_false, true_and, and_true, and_self, d1, d3]
    refine scall_in 16 _ Try.func81 rfl Try.ntmps81 Try.results81 Try.call81 ?_
    simp only [go_sem, ↓reduceIte, Nat.reduceEqDiff, Nat.reduceLT, Nat.reduceLeDiff, Nat.reduceAdd, Nat.reduceMul, Nat.reduceSub, Nat.reduceDiv, Nat.reduceMod, Int.reduceToNat, Int.reduceLT, Int.reduceLE, Int.reduceAdd, Int.reduceSub, Int.reduceMul, Int.reduceEq, Int.reduceNeg, reduceCtorEq, or_false, false_or, decide_true, decide_false, Int.cast_ofNat_Int, Nat.zero_add, Nat.add_zero, Int.toNat_natCast, Option.isNone_none, Option.isNone_some, Bool.not_true, Bool.not_false, Bool.xor_true, Bool.xor_false, Bool.true_xor, Bool.false_xor, decide_true, decide_false, Bool.and_true, Bool.true_and, Bool.and_false, Bool.false_and, eq_self, ne_eq, not_false_eq_true, not_true_eq_false, true_and, and_true, and_self, d1, d3]
    refine fun ρ a w' hs hag => ?_
    obtain ⟨fp', h1, h2⟩ := tab_ends (T' := T) (S' := S) hS hfp hs hag rfl rfl (fun i _ => map_v _ _) (fun i _ => .inl ⟨rfl, rfl⟩)
    exact ⟨fp', by simp [SV.den, CV.den, endE, d2], by simpa [endT, d2] using h1, h2⟩
  obtain ⟨d2, k, rfl, hk1, hk⟩ := inS_of h1 h2
  have d1 : decide ((k : Int) < 1) = false := by simp [h1]
  have d3 : decide (8 < (k : Int)) = false := by simp [h2]
  have d4 : (0 : Int) ≤ k ∧ (k : Int) < 9 := by omega
  have hrow := row_eq T S k
  simp only [go_sem, ↓reduceIte, Nat.reduceEqDiff, Nat.reduceLT, Nat.reduceLeDiff, Nat.reduceAdd, Nat.reduceMul, Nat.reduceSub, Nat.reduceDiv, Nat.reduceMod, Int.reduceToNat, Int.reduceLT, Int.reduceLE, Int.reduceAdd, Int.reduceSub, Int.reduceMul, Int.reduceEq, Int.reduceNeg, reduceCtorEq, or_false, false_or, decide_true, decide_false, Int.cast_ofNat_Int, Nat.zero_add, Nat.add_zero, Int.toNat_natCast, Option.isNone_none, Option.isNone_some, Bool.not_true, Bool.not_false, Bool.xor_true, Bool.xor_false, Bool.true_xor, Bool.false_xor, decide_true, decide_false, Bool.and_true, Bool.true_and, Bool.and_false, Bool.false_and, eq_self, ne_eq, not_false_eq_true, not_true_eq_false, true_and, and_true, and_self]
  refine scall_in 23 _ Try.func84 rfl Try.ntmps84 Try.results84 Try.call84 ?_
  simp only [go_sem, ↓reduceIte, Nat.reduceEqDiff, Nat.reduceLT, Nat.reduceLeDiff, Nat.reduceAdd, Nat.reduceMul, Nat.reduceSub, Nat.reduceDiv, Nat.reduceMod, Int.reduceToNat, Int.reduceLT, Int.reduceLE, Int.reduceAdd, Int.reduceSub, Int.reduceMul, Int.reduceEq, Int.reduceNeg, reduceCtorEq, or_false, false_or, decide_true, decide_false, Int.cast_ofNat_Int, Nat.zero_add, Nat.add_zero, Int.toNat_natCast, Option.isNone_none, Option.isNone_some, Bool.not_true, Bool.not_false, Bool.xor_true, Bool.xor_false, Bool.true_xor, Bool.false_xor, decide_true, decide_false, Bool.and_true, Bool.true_and, Bool.and_false, Bool.false_and, eq_self, ne_eq, not_false_eq_true, not_true_eq_false, true_and, and_true, and_self, d1, d3, d4]
  refine scall_in 16 _ Try.func81 rfl Try.ntmps81 Try.results81 Try.call81 ?_
  simp only [go_sem, ↓reduceIte, Nat.reduceEqDiff, Nat.reduceLT, Nat.reduceLeDiff, Nat.reduceAdd, Nat.reduceMul, Nat.reduceSub, Nat.reduceDiv, Nat.reduceMod, Int.reduceToNat, Int.reduceLT, Int.reduceLE, Int.reduceAdd, Int.reduceSub, Int.reduceMul, Int.reduceEq, Int.reduceNeg, reduceCtorEq, or_false, false_or, decide_true, decide_false, Int.cast_ofNat_Int, Nat.zero_add, Nat.add_zero, Int.toNat_natCast, Option.isNone_none, Option.isNone_some, Bool.not_true, Bool.not_false, Bool.xor_true, Bool.xor_false, Bool.true_xor, Bool.false_xor, decide_true, decide_false, Bool.and_true, Bool.true_and, Bool.and_false, Bool.false_and, eq_self, ne_eq, not_false_eq_true, not_true_eq_false, true_and, and_true, and_self, d1, d3, d4]
  cases hi : (T k).is
  · simp only [go_sem, ↓reduceIte, Nat.reduceEqDiff, Nat.reduceLT, Nat.reduceLeDiff, Nat.reduceAdd, Nat.reduceMul, Nat.reduceSub, Nat.reduceDiv, Nat.reduceMod, Int.reduceToNat, Int.reduceLT, Int.reduceLE, Int.reduceAdd, Int.reduceSub, Int.reduceMul, Int.reduceEq, Int.reduceNeg, reduceCtorEq, or_false, false_or, decide_true, decide_false, Int.cast_ofNat_Int, Nat.zero_add, Nat.add_zero, Int.toNat_natCast, Option.isNone_none, Option.isNone_some, Bool.not_true, Bool.not_false, Bool.xor_true, Bool.xor_false, Bool.true_xor, Bool.false_xor, decide_true, decide_false, Bool.and_true, Bool.true_and, Bool.and_false, Bool.false_and, eq_self, ne_eq, not_false_eq_true, not_true_eq_false, true_and, and_true, and_self, hrow, hk, hi]
    refine fun ρ a w' hs hag => ?_
    obtain ⟨fp', h1, h2⟩ := tab_ends (T' := T) (S' := S) hS hfp hs hag rfl rfl (fun i _ => map_v _ _) (fun i _ => .inl ⟨rfl, rfl⟩)
    exact ⟨fp', by simp [SV.den, CV.den, endE, d2, hi], by simpa [endT, d2, hi] using h1, h2⟩
  simp only [go_sem, ↓reduceIte, Nat.reduceEqDiff, Nat.reduceLT, Nat.reduceLeDiff, Nat.reduceAdd, Nat.reduceMul, Nat.reduceSub, Nat.reduceDiv, Nat.reduceMod, Int.reduceToNat, Int.reduceLT, Int.reduceLE, Int.reduceAdd, Int.reduceSub, Int.reduceMul, Int.reduceEq, Int.reduceNeg, reduceCtorEq, or_false, false_or, decide_true, decide_false, Int.cast_ofNat_Int, Nat.zero_add, Nat.add_zero, Int.toNat_natCast, Option.isNone_none, Option.isNone_some, Bool.not_true, Bool.not_false, Bool.xor_true, Bool.xor_false, Bool.true_xor, Bool.false_xor, decide_true, decide_false, Bool.and_true, Bool.true_and, Bool.and_false, Bool.false_and, eq_self, ne_eq, not_false_eq_true, not_true_eq_false, true_and, and_true, and_self, hrow, hk, hi]
  refine scall_in 16 _ Try.func81 rfl Try.ntmps81 Try.results81 Try.call81 ?_
  simp only [go_sem, ↓reduceIte, Nat.reduceEqDiff, Nat.reduceLT, Nat.reduceLeDiff, Nat.reduceAdd, Nat.reduceMul, Nat.reduceSub, Nat.reduceDiv, Nat.reduceMod, Int.reduceToNat, Int.reduceLT, Int.reduceLE, Int.reduceAdd, Int.reduceSub, Int.reduceMul, Int.reduceEq, Int.reduceNeg, reduceCtorEq, or_false, false_or, decide_true, decide_false, Int.cast_ofNat_Int, Nat.zero_add, Nat.add_zero, Int.toNat_natCast, Option.isNone_none, Option.isNone_some, Bool.not_true, Bool.not_false, Bool.xor_true, Bool.xor_false, Bool.true_xor, Bool.false_xor, decide_true, decide_false, Bool.and_true, Bool.true_and, Bool.and_false, Bool.false_and, eq_self, ne_eq, not_false_eq_true, not_true_eq_false, true_and, and_true, and_self, d1, d3, d4, hrow, hk]
  refine fun ρ a w' hs hag => ?_
  obtain ⟨fp', h1, h2⟩ := tab_ends (T' := upd T k ⟨(T k).seen, none⟩) (S' := upd S k none) hS hfp hs hag rfl rfl (fun i _ => row_upd (o := ⟨(T k).seen, none⟩) (by rfl) i) (fun i _ => by
    by_cases hi : i = k
    · exact .inr (by simp [hi, upd, One.ws])
    · exact .inl (by simp [hi, upd]))
  exact ⟨fp', by simp [SV.den, CV.den, endE, d2, hi], by simpa [endT, d2, hi] using h1, h2⟩

def snapV (T : Nat → One) (id : Int) : V4 := if inS id && (T id.toNat).is then (T id.toNat).sn else ⟨0, 0, 0, 0⟩
def isT (T : Nat → One) (id : Int) : Bool := inS id && (T id.toNat).is
theorem snap_c (g : Nat) (T : Nat → One) (fp : List Nat) (id : Int) (w : World) (ht : TabIs g T fp w) :
    Calls Try.prog 28 #[ptr g, .int .i64 id] w (Turns g fp (.tuple #[(snapV T id).v, .bool (isT T id)]) T w) := by
  refine tab_calls ht 17 _ Try.func28 rfl Try.ntmps28 Try.results28 [.c (.p 0 0 0), .c (.v (.int .i64 id))] (by simp) (fun ρ h => by simp [SV.denL, SV.den, CV.den, CV.denL, h]) fun S hS hfp => ?_
  by_cases h1 : id < 1
  · have d1 : decide (id < 1) = true := by simp [h1]
    have d2 : inS id = false := by simp [inS]; omega
    simp only [go_sem, ↓reduceIte, Nat.reduceEqDiff, Nat.reduceLT, Nat.reduceLeDiff, Nat.reduceAdd, Nat.reduceMul, Nat.reduceSub, Nat.reduceDiv, Nat.reduceMod, Int.reduceToNat, Int.reduceLT, Int.reduceLE, Int.reduceAdd, Int.reduceSub, Int.reduceMul, Int.reduceEq, Int.reduceNeg, reduceCtorEq, or_false, false_or, decide_true, decide_false, Int.cast_ofNat_Int, Nat.zero_add, Nat.add_zero, Int.toNat_natCast, Option.isNone_none, Option.isNone_some, Bool.not_true, Bool.not_false, Bool.xor_true, Bool.xor_false, Bool.true_xor, Bool.false_xor, decide_true, decide_false, Bool.and_true, Bool.true_and, Bool.and_false, Bool.false_and, eq_self, ne_eq, not_false_eq_true, not_true_eq_false, true_and, and_true, and_self]
    refine scall_in 23 _ Try.func84 rfl Try.ntmps84 Try.results84 Try.call84 ?_
    simp only [go_sem, ↓reduceIte, Nat.reduceEqDiff, Nat.reduceLT, Nat.reduceLeDiff, Nat.reduceAdd, Nat.reduceMul, Nat.reduceSub, Nat.reduceDiv, Nat.reduceMod, Int.reduceToNat, Int.reduceLT, Int.reduceLE, Int.reduceAdd, Int.reduceSub, Int.reduceMul, Int.reduceEq, Int.reduceNeg, reduceCtorEq, or_false, false_or, decide_true, decide_false, Int.cast_ofNat_Int, Nat.zero_add, Nat.add_zero, Int.toNat_natCast, Option.isNone_none, Option.isNone_some, Bool.not_true, Bool.not_false, Bool.xor_true, Bool.xor_false, Bool.true_xor, Bool.false_xor, decide_true, decide_false, Bool.and_true, Bool.true_and, Bool.and_false, Bool.false_and, eq_self, ne_eq, not_false_eq_true, not_true_eq_false, true_and, and_true, and_self, d1]
    refine scall_in 16 _ Try.func81 rfl Try.ntmps81 Try.results81 Try.call81 ?_
    simp only [go_sem, ↓reduceIte, Nat.reduceEqDiff, Nat.reduceLT, Nat.reduceLeDiff, Nat.reduceAdd, Nat.reduceMul, Nat.reduceSub, Nat.reduceDiv, Nat.reduceMod, Int.reduceToNat, Int.reduceLT, Int.reduceLE, Int.reduceAdd, Int.reduceSub, Int.reduceMul, Int.reduceEq, Int.reduceNeg, reduceCtorEq, or_false, false_or, decide_true, decide_false, Int.cast_ofNat_Int, Nat.zero_add, Nat.add_zero, Int.toNat_natCast, Option.isNone_none, Option.isNone_some, Bool.not_true, Bool.not_false, Bool.xor_true, Bool.xor_false, Bool.true_xor, Bool.false_xor, decide_true, decide_false, Bool.and_true, Bool.true_and, Bool.and_false, Bool.false_and, eq_self, ne_eq, not_false_eq_true, not_true_eq_false, true_and, and_true, and_self, d1]
    refine fun ρ a w' hs hag => ?_
    obtain ⟨fp', h1, h2⟩ := tab_ends (T' := T) (S' := S) hS hfp hs hag rfl rfl (fun i _ => map_v _ _) (fun i _ => .inl ⟨rfl, rfl⟩)
    exact ⟨fp', by simp [SV.den, SV.denL, CV.den, CV.denL, snapV, isT, d2], h1, h2⟩
  by_cases h2 : 8 < id
  · have d1 : decide (id < 1) = false := by simp [h1]
    have d3 : decide (8 < id) = true := by simp [h2]
    have d2 : inS id = false := by simp [inS]; omega
    simp only [go_sem, ↓reduceIte, Nat.reduceEqDiff, Nat.reduceLT, Nat.reduceLeDiff, Nat.reduceAdd, Nat.reduceMul, Nat.reduceSub, Nat.reduceDiv, Nat.reduceMod, Int.reduceToNat, Int.reduceLT, Int.reduceLE, Int.reduceAdd, Int.reduceSub, Int.reduceMul, Int.reduceEq, Int.reduceNeg, reduceCtorEq, or_false, false_or, decide_true, decide_false, Int.cast_ofNat_Int, Nat.zero_add, Nat.add_zero, Int.toNat_natCast, Option.isNone_none, Option.isNone_some, Bool.not_true, Bool.not_false, Bool.xor_true, Bool.xor_false, Bool.true_xor, Bool.false_xor, decide_true, decide_false, Bool.and_true, Bool.true_and, Bool.and_false, Bool.false_and, eq_self, ne_eq, not_false_eq_true, not_true_eq_false, true_and, and_true, and_self]
    refine scall_in 23 _ Try.func84 rfl Try.ntmps84 Try.results84 Try.call84 ?_
    simp only [go_sem, ↓reduceIte, Nat.reduceEqDiff, Nat.reduceLT, Nat.reduceLeDiff, Nat.reduceAdd, Nat.reduceMul, Nat.reduceSub, Nat.reduceDiv, Nat.reduceMod, Int.reduceToNat, Int.reduceLT, Int.reduceLE, Int.reduceAdd, Int.reduceSub, Int.reduceMul, Int.reduceEq, Int.reduceNeg, reduceCtorEq, or_false, false_or, decide_true, decide_false, Int.cast_ofNat_Int, Nat.zero_add, Nat.add_zero, Int.toNat_natCast, Option.isNone_none, Option.isNone_some, Bool.not_true, Bool.not_false, Bool.xor_true, Bool.xor_false, Bool.true_xor, Bool.false_xor, decide_true, decide_false, Bool.and_true, Bool.true_and, Bool.and_false, Bool.false_and, eq_self, ne_eq, not_false_eq_true, not_true_eq_false, true_and, and_true, and_self, d1, d3]
    refine scall_in 16 _ Try.func81 rfl Try.ntmps81 Try.results81 Try.call81 ?_
    simp only [go_sem, ↓reduceIte, Nat.reduceEqDiff, Nat.reduceLT, Nat.reduceLeDiff, Nat.reduceAdd, Nat.reduceMul, Nat.reduceSub, Nat.reduceDiv, Nat.reduceMod, Int.reduceToNat, Int.reduceLT, Int.reduceLE, Int.reduceAdd, Int.reduceSub, Int.reduceMul, Int.reduceEq, Int.reduceNeg, reduceCtorEq, or_false, false_or, decide_true, decide_false, Int.cast_ofNat_Int, Nat.zero_add, Nat.add_zero, Int.toNat_natCast, Option.isNone_none, Option.isNone_some, Bool.not_true, Bool.not_false, Bool.xor_true, Bool.xor_false, Bool.true_xor, Bool.false_xor, decide_true, decide_false, Bool.and_true, Bool.true_and, Bool.and_false, Bool.false_and, eq_self, ne_eq, not_false_eq_true, not_true_eq_false, true_and, and_true, and_self, d1, d3]
    refine fun ρ a w' hs hag => ?_
    obtain ⟨fp', h1, h2⟩ := tab_ends (T' := T) (S' := S) hS hfp hs hag rfl rfl (fun i _ => map_v _ _) (fun i _ => .inl ⟨rfl, rfl⟩)
    exact ⟨fp', by simp [SV.den, SV.denL, CV.den, CV.denL, snapV, isT, d2], h1, h2⟩
  obtain ⟨d2, k, rfl, hk1, hk⟩ := inS_of h1 h2
  have d1 : decide ((k : Int) < 1) = false := by simp [h1]
  have d3 : decide (8 < (k : Int)) = false := by simp [h2]
  have d4 : (0 : Int) ≤ k ∧ (k : Int) < 9 := by omega
  have hrow := row_eq T S k
  simp only [go_sem, ↓reduceIte, Nat.reduceEqDiff, Nat.reduceLT, Nat.reduceLeDiff, Nat.reduceAdd, Nat.reduceMul, Nat.reduceSub, Nat.reduceDiv, Nat.reduceMod, Int.reduceToNat, Int.reduceLT, Int.reduceLE, Int.reduceAdd, Int.reduceSub, Int.reduceMul, Int.reduceEq, Int.reduceNeg, reduceCtorEq, or_false, false_or, decide_true, decide_false, Int.cast_ofNat_Int, Nat.zero_add, Nat.add_zero, Int.toNat_natCast, Option.isNone_none, Option.isNone_some, Bool.not_true, Bool.not_false, Bool.xor_true, Bool.xor_false, Bool.true_xor, Bool.false_xor, decide_true, decide_false, Bool.and_true, Bool.true_and, Bool.and_false, Bool.false_and, eq_self, ne_eq, not_false_eq_true, not_true_eq_false, true_and, and_true, and_self]
  refine scall_in 23 _ Try.func84 rfl Try.ntmps84 Try.results84 Try.call84 ?_
  simp only [go_sem, ↓reduceIte, Nat.reduceEqDiff, Nat.reduceLT, Nat.reduceLeDiff, Nat.reduceAdd, Nat.reduceMul, Nat.reduceSub, Nat.reduceDiv, Nat.reduceMod, Int.reduceToNat, Int.reduceLT, Int.reduceLE, Int.reduceAdd, Int.reduceSub, Int.reduceMul, Int.reduceEq, Int.reduceNeg, reduceCtorEq, or_false, false_or, decide_true, decide_false, Int.cast_ofNat_Int, Nat.zero_add, Nat.add_zero, Int.toNat_natCast, Option.isNone_none, Option.isNone_some, Bool.not_true, Bool.not_false, Bool.xor_true, Bool.xor_false, Bool.true_xor, Bool.false_xor, decide_true, decide_false, Bool.and_true, Bool.true_and, Bool.and_false, Bool.false_and, eq_self, ne_eq, not_false_eq_true, not_true_eq_false, true_and, and_true, and_self, d1, d3, d4]
  refine scall_in 16 _ Try.func81 rfl Try.ntmps81 Try.results81 Try.call81 ?_
  simp only [go_sem, ↓reduceIte, Nat.reduceEqDiff, Nat.reduceLT, Nat.reduceLeDiff, Nat.reduceAdd, Nat.reduceMul, Nat.reduceSub, Nat.reduceDiv, Nat.reduceMod, Int.reduceToNat, Int.reduceLT, Int.reduceLE, Int.reduceAdd, Int.reduceSub, Int.reduceMul, Int.reduceEq, Int.reduceNeg, reduceCtorEq, or_false, false_or, decide_true, decide_false, Int.cast_ofNat_Int, Nat.zero_add, Nat.add_zero, Int.toNat_natCast, Option.isNone_none, Option.isNone_some, Bool.not_true, Bool.not_false, Bool.xor_true, Bool.xor_false, Bool.true_xor, Bool.false_xor, decide_true, decide_false, Bool.and_true, Bool.true_and, Bool.and_false, Bool.false_and, eq_self, ne_eq, not_false_eq_true, not_true_eq_false, true_and, and_true, and_self, d1, d3, d4]
  cases hi : (T k).is
  · simp only [go_sem, ↓reduceIte, Nat.reduceEqDiff, Nat.reduceLT, Nat.reduceLeDiff, Nat.reduceAdd, Nat.reduceMul, Nat.reduceSub, Nat.reduceDiv, Nat.reduceMod, Int.reduceToNat, Int.reduceLT, Int.reduceLE, Int.reduceAdd, Int.reduceSub, Int.reduceMul, Int.reduceEq, Int.reduceNeg, reduceCtorEq, or_false, false_or, decide_true, decide_false, Int.cast_ofNat_Int, Nat.zero_add, Nat.add_zero, Int.toNat_natCast, Option.isNone_none, Option.isNone_some, Bool.not_true, Bool.not_false, Bool.xor_true, Bool.xor_false, Bool.true_xor, Bool.false_xor, decide_true, decide_false, Bool.and_true, Bool.true_and, Bool.and_false, Bool.false_and, eq_self, ne_eq, not_false_eq_true, not_true_eq_false, true_and, and_true, and_self, hrow, hk, hi]
    refine fun ρ a w' hs hag => ?_
    obtain ⟨fp', h1, h2⟩ := tab_ends (T' := T) (S' := S) hS hfp hs hag rfl rfl (fun i _ => map_v _ _) (fun i _ => .inl ⟨rfl, rfl⟩)
    exact ⟨fp', by simp [SV.den, SV.denL, CV.den, CV.denL, snapV, isT, d2, hi], h1, h2⟩
  simp only [go_sem, ↓reduceIte, Nat.reduceEqDiff, Nat.reduceLT, Nat.reduceLeDiff, Nat.reduceAdd, Nat.reduceMul, Nat.reduceSub, Nat.reduceDiv, Nat.reduceMod, Int.reduceToNat, Int.reduceLT, Int.reduceLE, Int.reduceAdd, Int.reduceSub, Int.reduceMul, Int.reduceEq, Int.reduceNeg, reduceCtorEq, or_false, false_or, decide_true, decide_false, Int.cast_ofNat_Int, Nat.zero_add, Nat.add_zero, Int.toNat_natCast, Option.isNone_none, Option.isNone_some, Bool.not_true, Bool.not_false, Bool.xor_true, Bool.xor_false, Bool.true_xor, Bool.false_xor, decide_true, decide_false, Bool.and_true, Bool.true_and, Bool.and_false, Bool.false_and, eq_self, ne_eq, not_false_eq_true, not_true_eq_false, true_and, and_true, and_self, hrow, hk, hi]
  refine fun ρ a w' hs hag => ?_
  obtain ⟨fp', h1, h2⟩ := tab_ends (T' := T) (S' := S) hS hfp hs hag rfl rfl (fun i _ => map_v _ _) (fun i _ => .inl ⟨rfl, rfl⟩)
  exact ⟨fp', by simp [SV.den, SV.denL, CV.den, CV.denL, snapV, isT, d2, hi], h1, h2⟩

def seenV (T : Nat → One) (id : Int) : V4 := if inS id then (T id.toNat).seen else ⟨0, 0, 0, 0⟩
theorem seen_c (g : Nat) (T : Nat → One) (fp : List Nat) (id : Int) (w : World) (ht : TabIs g T fp w) :
    Calls Try.prog 34 #[ptr g, .int .i64 id] w (Turns g fp (seenV T id).v T w) := by
  refine tab_calls ht 16 _ Try.func34 rfl Try.ntmps34 Try.results34 [.c (.p 0 0 0), .c (.v (.int .i64 id))] (by simp) (fun ρ h => by simp [SV.denL, SV.den, CV.den, CV.denL, h]) fun S hS hfp => ?_
  by_cases h1 : id < 1
  · have d1 : decide (id < 1) = true := by simp [h1]
    have d2 : inS id = false := by simp [inS]; omega
    simp only [go_sem, ↓reduceIte, Nat.reduceEqDiff, Nat.reduceLT, Nat.reduceLeDiff, Nat.reduceAdd, Nat.reduceMul, Nat.reduceSub, Nat.reduceDiv, Nat.reduceMod, Int.reduceToNat, Int.reduceLT, Int.reduceLE, Int.reduceAdd, Int.reduceSub, Int.reduceMul, Int.reduceEq, Int.reduceNeg, reduceCtorEq, or_false, false_or, decide_true, decide_false, Int.cast_ofNat_Int, Nat.zero_add, Nat.add_zero, Int.toNat_natCast, Option.isNone_none, Option.isNone_some, Bool.not_true, Bool.not_false, Bool.xor_true, Bool.xor_false, Bool.true_xor, Bool.false_xor, decide_true, decide_false, Bool.and_true, Bool.true_and, Bool.and_false, Bool.false_and, eq_self, ne_eq, not_false_eq_true, not_true_eq_false, true_and, and_true, and_self]
    refine scall_in 16 _ Try.func81 rfl Try.ntmps81 Try.results81 Try.call81 ?_
    simp only [go_sem, ↓reduceIte, Nat.reduceEqDiff, Nat.reduceLT, Nat.reduceLeDiff, Nat.reduceAdd, Nat.reduceMul, Nat.reduceSub, Nat.reduceDiv, Nat.reduceMod, Int.reduceToNat, Int.reduceLT, Int.reduceLE, Int.reduceAdd, Int.reduceSub, Int.reduceMul, Int.reduceEq, Int.reduceNeg, reduceCtorEq, or_false, false_or, decide_true, decide_false, Int.cast_ofNat_Int, Nat.zero_add, Nat.add_zero, Int.toNat_natCast, Option.isNone_none, Option.isNone_some, Bool.not_true, Bool.not_false, Bool.xor_true, Bool.xor_false, Bool.true_xor, Bool.false_xor, decide_true, decide_false, Bool.and_true, Bool.true_and, Bool.and_false, Bool.false_and, eq_self, ne_eq, not_false_eq_true, not_true_eq_false, true_and, and_true, and_self, d1]
    refine fun ρ a w' hs hag => ?_
    obtain ⟨fp', h1, h2⟩ := tab_ends (T' := T) (S' := S) hS hfp hs hag rfl rfl (fun i _ => map_v _ _) (fun i _ => .inl ⟨rfl, rfl⟩)
    exact ⟨fp', by simp [SV.den, SV.denL, CV.den, CV.denL, seenV, d2], h1, h2⟩
  by_cases h2 : 8 < id
  · have d1 : decide (id < 1) = false := by simp [h1]
    have d3 : decide (8 < id) = true := by simp [h2]
    have d2 : inS id = false := by simp [inS]; omega
    simp only [go_sem, ↓reduceIte, Nat.reduceEqDiff, Nat.reduceLT, Nat.reduceLeDiff, Nat.reduceAdd, Nat.reduceMul, Nat.reduceSub, Nat.reduceDiv, Nat.reduceMod, Int.reduceToNat, Int.reduceLT, Int.reduceLE, Int.reduceAdd, Int.reduceSub, Int.reduceMul, Int.reduceEq, Int.reduceNeg, reduceCtorEq, or_false, false_or, decide_true, decide_false, Int.cast_ofNat_Int, Nat.zero_add, Nat.add_zero, Int.toNat_natCast, Option.isNone_none, Option.isNone_some, Bool.not_true, Bool.not_false, Bool.xor_true, Bool.xor_false, Bool.true_xor, Bool.false_xor, decide_true, decide_false, Bool.and_true, Bool.true_and, Bool.and_false, Bool.false_and, eq_self, ne_eq, not_false_eq_true, not_true_eq_false, true_and, and_true, and_self]
    refine scall_in 16 _ Try.func81 rfl Try.ntmps81 Try.results81 Try.call81 ?_
    simp only [go_sem, ↓reduceIte, Nat.reduceEqDiff, Nat.reduceLT, Nat.reduceLeDiff, Nat.reduceAdd, Nat.reduceMul, Nat.reduceSub, Nat.reduceDiv, Nat.reduceMod, Int.reduceToNat, Int.reduceLT, Int.reduceLE, Int.reduceAdd, Int.reduceSub, Int.reduceMul, Int.reduceEq, Int.reduceNeg, reduceCtorEq, or_false, false_or, decide_true, decide_false, Int.cast_ofNat_Int, Nat.zero_add, Nat.add_zero, Int.toNat_natCast, Option.isNone_none, Option.isNone_some, Bool.not_true, Bool.not_false, Bool.xor_true, Bool.xor_false, Bool.true_xor, Bool.false_xor, decide_true, decide_false, Bool.and_true, Bool.true_and, Bool.and_false, Bool.false_and, eq_self, ne_eq, not_false_eq_true, not_true_eq_false, true_and, and_true, and_self, d1, d3]
    refine fun ρ a w' hs hag => ?_
    obtain ⟨fp', h1, h2⟩ := tab_ends (T' := T) (S' := S) hS hfp hs hag rfl rfl (fun i _ => map_v _ _) (fun i _ => .inl ⟨rfl, rfl⟩)
    exact ⟨fp', by simp [SV.den, SV.denL, CV.den, CV.denL, seenV, d2], h1, h2⟩
  obtain ⟨d2, k, rfl, hk1, hk⟩ := inS_of h1 h2
  have d1 : decide ((k : Int) < 1) = false := by simp [h1]
  have d3 : decide (8 < (k : Int)) = false := by simp [h2]
  have d4 : (0 : Int) ≤ k ∧ (k : Int) < 9 := by omega
  have hrow := row_eq T S k
  simp only [go_sem, ↓reduceIte, Nat.reduceEqDiff, Nat.reduceLT, Nat.reduceLeDiff, Nat.reduceAdd, Nat.reduceMul, Nat.reduceSub, Nat.reduceDiv, Nat.reduceMod, Int.reduceToNat, Int.reduceLT, Int.reduceLE, Int.reduceAdd, Int.reduceSub, Int.reduceMul, Int.reduceEq, Int.reduceNeg, reduceCtorEq, or_false, false_or, decide_true, decide_false, Int.cast_ofNat_Int, Nat.zero_add, Nat.add_zero, Int.toNat_natCast, Option.isNone_none, Option.isNone_some, Bool.not_true, Bool.not_false, Bool.xor_true, Bool.xor_false, Bool.true_xor, Bool.false_xor, decide_true, decide_false, Bool.and_true, Bool.true_and, Bool.and_false, Bool.false_and, eq_self, ne_eq, not_false_eq_true, not_true_eq_false, true_and, and_true, and_self]
  refine scall_in 16 _ Try.func81 rfl Try.ntmps81 Try.results81 Try.call81 ?_
  simp only [go_sem, ↓reduceIte, Nat.reduceEqDiff, Nat.reduceLT, Nat.reduceLeDiff, Nat.reduceAdd, Nat.reduceMul, Nat.reduceSub, Nat.reduceDiv, Nat.reduceMod, Int.reduceToNat, Int.reduceLT, Int.reduceLE, Int.reduceAdd, Int.reduceSub, Int.reduceMul, Int.reduceEq, Int.reduceNeg, reduceCtorEq, or_false, false_or, decide_true, decide_false, Int.cast_ofNat_Int, Nat.zero_add, Nat.add_zero, Int.toNat_natCast, Option.isNone_none, Option.isNone_some, Bool.not_true, Bool.not_false, Bool.xor_true, Bool.xor_false, Bool.true_xor, Bool.false_xor, decide_true, decide_false, Bool.and_true, Bool.true_and, Bool.and_false, Bool.false_and, eq_self, ne_eq, not_false_eq_true, not_true_eq_false, true_and, and_true, and_self, d1, d3, d4]
  simp only [go_sem, ↓reduceIte, Nat.reduceEqDiff, Nat.reduceLT, Nat.reduceLeDiff, Nat.reduceAdd, Nat.reduceMul, Nat.reduceSub, Nat.reduceDiv, Nat.reduceMod, Int.reduceToNat, Int.reduceLT, Int.reduceLE, Int.reduceAdd, Int.reduceSub, Int.reduceMul, Int.reduceEq, Int.reduceNeg, reduceCtorEq, or_false, false_or, decide_true, decide_false, Int.cast_ofNat_Int, Nat.zero_add, Nat.add_zero, Int.toNat_natCast, Option.isNone_none, Option.isNone_some, Bool.not_true, Bool.not_false, Bool.xor_true, Bool.xor_false, Bool.true_xor, Bool.false_xor, decide_true, decide_false, Bool.and_true, Bool.true_and, Bool.and_false, Bool.false_and, eq_self, ne_eq, not_false_eq_true, not_true_eq_false, true_and, and_true, and_self, hrow, hk]
  refine fun ρ a w' hs hag => ?_
  obtain ⟨fp', h1, h2⟩ := tab_ends (T' := T) (S' := S) hS hfp hs hag rfl rfl (fun i _ => map_v _ _) (fun i _ => .inl ⟨rfl, rfl⟩)
  exact ⟨fp', by simp [SV.den, SV.denL, CV.den, CV.denL, seenV, d2], h1, h2⟩
end Go.Proofs.Ytfokingbglkmjaa
