/-
  Further functions on a table of sessions. Conditions: none.
-/
import Derived.Test.YtfokingbglkmjaaSess2
namespace Go.Proofs.Ytfokingbglkmjaa
open Go.RowKit Go.Sx
set_option linter.unusedVariables false
set_option linter.unusedSimpArgs false

def none1 : One := ⟨⟨0, 0, 0, 0⟩, none⟩
def zrow : List Value := [vu 0, vu 0, vu 0, vu 0, .bool false, vu 0, vu 0, vu 0, vu 0, .slice none 0 0]
theorem new_c (w : World) : Calls Try.prog 16 #[] w fun e w' => ∃ g fp', e = .returned (ptr g) ∧ TabIs g (fun _ => none1) fp' w' ∧ Chg [] fp' w w' := by
  refine calls_pure 3 _ Try.func16 rfl Try.ntmps16 Try.results16 [] (by simp) (fun _ => rfl) ?_
  simp only [go_sem, ↓reduceIte, Nat.reduceEqDiff, Nat.reduceLT, Nat.reduceLeDiff, Nat.reduceAdd, Nat.reduceMul, Nat.reduceSub, Nat.reduceDiv, Nat.reduceMod, Int.reduceToNat, Int.reduceLT, Int.reduceLE, Int.reduceAdd, Int.reduceSub, Int.reduceMul, Int.reduceEq, Int.reduceNeg, reduceCtorEq, or_false, false_or, decide_true, decide_false, Int.cast_ofNat_Int, Nat.zero_add, Nat.add_zero, Int.toNat_natCast, Option.isNone_none, Option.isNone_some, Bool.not_true, Bool.not_false, Bool.xor_true, Bool.xor_false, Bool.true_xor, Bool.false_xor, decide_true, decide_false, Bool.and_true, Bool.true_and, Bool.and_false, Bool.false_and, eq_self, ne_eq, not_false_eq_true, not_true_eq_false, true_and, and_true, and_self]
  refine fun ρ a w' hs _ => ?_
  have h0 := hs.now.hp 0 _ (List.mem_cons_self ..)
  obtain ⟨hb, hh, ho⟩ := h0
  have hn : (ρ 0).blk < w'.heap.size := (Array.getElem?_eq_some_iff.1 hh).1
  have hrows : RowsAt w' (ρ 0).blk 162 10 9 9 (fun i => ((fun _ => none1) i : One).row none) := by
    refine ⟨_, hh, by simp, fun i hi => ⟨rfl, fun k hk => ?_⟩⟩
    have hf := flat_rep (zrow.map CV.v) 10 rfl (by omega) 9 (i * 10 + k)
    rw [if_pos (by omega), show (i * 10 + k) % 10 = k by omega] at hf
    have e1 : (zrow[k]?).map CV.v = (zrow.map CV.v)[k]? := by rw [List.getElem?_map]
    rw [List.getElem?_toArray, List.getElem?_map]
    refine (congrArg (Option.map (CV.den ρ)) hf).trans ?_
    rw [← List.getElem?_map, map_v]
    rfl
  have hdis : Dis (ρ 0).blk (fun _ => none) := ⟨(fun _ _ _ _ h => by cases h), (fun _ _ _ _ _ _ _ _ _ h => by cases h)⟩
  have hk := hs.now.keeps
  refine ⟨(ρ 0).blk, [(ρ 0).blk], by simp [SV.den, CV.den, hb], ⟨fun _ => none, ⟨hrows, fun _ _ => rfl, hdis⟩, by simp [restf]⟩, ⟨⟨hk.os, hk.tape, hk.output, hk.size, fun k hk' _ => hk.block k hk' (fun h => h)⟩, fun k hk => ?_, by simp⟩⟩
  simp at hk; subst hk
  exact ⟨.inr (ho.elim id fun h => h.elim), hn⟩

def manyN (T : Nat → One) (n : Nat) : Nat := ((List.range n).filter fun i => (T i).is).length
theorem manyN_s (T : Nat → One) (n : Nat) : manyN T (n + 1) = manyN T n + if (T n).is then 1 else 0 := by
  simp only [manyN, List.range_succ, List.filter_append, List.length_append, List.filter_cons, List.filter_nil]
  cases (T n).is <;> rfl
theorem manyN_le (T : Nat → One) (n : Nat) : manyN T n ≤ n := by
  have := List.length_filter_le (fun i => (T i).is) (List.range n)
  simpa [manyN] using this

theorem many_c (g : Nat) (T : Nat → One) (fp : List Nat) (w : World) (ht : TabIs g T fp w) :
    Calls Try.prog 38 #[ptr g] w (Turns g fp (.int .i64 (manyN T 9)) T w) := by
  refine tab_calls ht 20 _ Try.func38 rfl Try.ntmps38 Try.results38 [.c (.p 0 0 0)] (by simp) (fun ρ h => by simp [SV.denL, SV.den, CV.den, CV.denL, h]) fun S hS hfp => ?_
  have hlen : ∀ j, j < 9 → (((T j).row (S j)).map CV.v).length = 10 := fun j _ => rfl
  have hsub : ∀ i, i < 9 → subL (rowsL (fun j => ((T j).row (S j)).map CV.v) 9) (i * 10) 10 = some (((T i).row (S i)).map CV.v) := fun i hi => by
    have hl := rowsL_len (r := fun j => ((T j).row (S j)).map CV.v) (e := 10) 9 hlen
    rw [subL_of _ _ _ (by rw [hl]; omega)]
    congr 1
    apply List.ext_getElem?
    intro q
    by_cases hq : q < 10
    · rw [List.getElem?_take_of_lt hq, List.getElem?_drop]
      exact rowsL_get (r := fun j => ((T j).row (S j)).map CV.v) (e := 10) 9 hlen i q hi hq
    · rw [List.getElem?_eq_none (by simp; omega), List.getElem?_eq_none (by rw [hlen i hi]; omega)]
  simp only [go_sem, ↓reduceIte, Nat.reduceEqDiff, Nat.reduceLT, Nat.reduceLeDiff, Nat.reduceAdd, Nat.reduceMul, Nat.reduceSub, Nat.reduceDiv, Nat.reduceMod, Int.reduceToNat, Int.reduceLT, Int.reduceLE, Int.reduceAdd, Int.reduceSub, Int.reduceMul, Int.reduceEq, Int.reduceNeg, reduceCtorEq, or_false, false_or, decide_true, decide_false, Int.cast_ofNat_Int, Nat.zero_add, Nat.add_zero, Int.toNat_natCast, Option.isNone_none, Option.isNone_some, Bool.not_true, Bool.not_false, Bool.xor_true, Bool.xor_false, Bool.true_xor, Bool.false_xor, decide_true, decide_false, Bool.and_true, Bool.true_and, Bool.and_false, Bool.false_and, eq_self, ne_eq, not_false_eq_true, not_true_eq_false, true_and, and_true, and_self, hlen]
  refine ⟨hlen, ?_⟩
  refine sloop (fun p : Nat × Nat => ⟨[(10, .c (.v (.int .i64 (p.1 : Nat)))), (9, .agg (rowsL (fun i => ((T i).row (S i)).map CV.v) 9)), (3, .c (.v (.int .i64 (manyN T p.1)))), (2, .c (.v (.int .i64 0)))], [(0, .rows 162 10 9 9 fun i => ((T i).row (S i)).map .v), (1, .pred (restf (List.range 9) S) (Wrs (List.range 9) T S))], p.2⟩) (fun p => p.1 ≤ 9 ∧ 2 ≤ p.2) (fun p => 9 - p.1) (0, 2) (by simp) (ent_drop ⟨rfl, rfl, rfl, rfl, trivial⟩ ⟨rfl, rfl, trivial⟩ (by simp)) (fun p hp => ?_)
  obtain ⟨i, m⟩ := p
  obtain ⟨hp, hm⟩ : i ≤ 9 ∧ 2 ≤ m := hp
  have b0 : Nat.beq m 0 = false := beq_no (by omega)
  have b1 : Nat.beq m 1 = false := beq_no (by omega)
  by_cases h : i < 9
  · have d1 : decide ((i : Int) < 9) = true := by simp; omega
    have d2 : (0 : Int) ≤ i ∧ (i : Int) < 9 := by omega
    have hs2 := hsub i h
    have hrow := row_eq T S i
    have w1 : IntKind.i64.wrap ((i : Int) + 1) = ((i + 1 : Nat) : Int) := wrap_i64 _ (by omega) (by omega)
    have hle := manyN_le T i
    have w2 : IntKind.i64.wrap ((manyN T i : Int) + 1) = ((manyN T i + 1 : Nat) : Int) := wrap_i64 _ (by omega) (by omega)
    cases hi : (T i).is
    · simp only [go_sem, ↓reduceIte, Nat.reduceEqDiff, Nat.reduceLT, Nat.reduceLeDiff, Nat.reduceAdd, Nat.reduceMul, Nat.reduceSub, Nat.reduceDiv, Nat.reduceMod, Int.reduceToNat, Int.reduceLT, Int.reduceLE, Int.reduceAdd, Int.reduceSub, Int.reduceMul, Int.reduceEq, Int.reduceNeg, reduceCtorEq, or_false, false_or, decide_true, decide_false, Int.cast_ofNat_Int, Nat.zero_add, Nat.add_zero, Int.toNat_natCast, Option.isNone_none, Option.isNone_some, Bool.not_true, Bool.not_false, Bool.xor_true, Bool.xor_false, Bool.true_xor, Bool.false_xor, decide_true, decide_false, Bool.and_true, Bool.true_and, Bool.and_false, Bool.false_and, eq_self, ne_eq, not_false_eq_true, not_true_eq_false, true_and, and_true, and_self, d1, d2, hs2, hrow, w1, w2, hi, sl_one]
      have e : manyN T (i + 1) = manyN T i := by simp [manyN_s, hi]
      refine ⟨(i + 1, _), ⟨by show i + 1 ≤ 9; omega, by show 2 ≤ m + 1; omega⟩, by show 9 - (i + 1) < 9 - i; omega, ent_drop ?_ ⟨by simp only [hget, b0, cond_false]; rfl, by simp only [hget, b1, cond_false]; rfl, trivial⟩ (by simp)⟩
      simp only [e]
      exact ⟨rfl, rfl, rfl, rfl, trivial⟩
    · simp only [go_sem, ↓reduceIte, Nat.reduceEqDiff, Nat.reduceLT, Nat.reduceLeDiff, Nat.reduceAdd, Nat.reduceMul, Nat.reduceSub, Nat.reduceDiv, Nat.reduceMod, Int.reduceToNat, Int.reduceLT, Int.reduceLE, Int.reduceAdd, Int.reduceSub, Int.reduceMul, Int.reduceEq, Int.reduceNeg, reduceCtorEq, or_false, false_or, decide_true, decide_false, Int.cast_ofNat_Int, Nat.zero_add, Nat.add_zero, Int.toNat_natCast, Option.isNone_none, Option.isNone_some, Bool.not_true, Bool.not_false, Bool.xor_true, Bool.xor_false, Bool.true_xor, Bool.false_xor, decide_true, decide_false, Bool.and_true, Bool.true_and, Bool.and_false, Bool.false_and, eq_self, ne_eq, not_false_eq_true, not_true_eq_false, true_and, and_true, and_self, d1, d2, hs2, hrow, w1, w2, hi, sl_one]
      have e : manyN T (i + 1) = manyN T i + 1 := by simp [manyN_s, hi]
      refine ⟨(i + 1, _), ⟨by show i + 1 ≤ 9; omega, by show 2 ≤ m + 1; omega⟩, by show 9 - (i + 1) < 9 - i; omega, ent_drop ?_ ⟨by simp only [hget, b0, cond_false]; rfl, by simp only [hget, b1, cond_false]; rfl, trivial⟩ (by simp)⟩
      simp only [e]
      exact ⟨rfl, rfl, rfl, rfl, trivial⟩
  · have : i = 9 := by omega
    subst this
    have d1 : decide (((9 : Nat) : Int) < 9) = false := by decide
    simp only [go_sem, ↓reduceIte, Nat.reduceEqDiff, Nat.reduceLT, Nat.reduceLeDiff, Nat.reduceAdd, Nat.reduceMul, Nat.reduceSub, Nat.reduceDiv, Nat.reduceMod, Int.reduceToNat, Int.reduceLT, Int.reduceLE, Int.reduceAdd, Int.reduceSub, Int.reduceMul, Int.reduceEq, Int.reduceNeg, reduceCtorEq, or_false, false_or, decide_true, decide_false, Int.cast_ofNat_Int, Nat.zero_add, Nat.add_zero, Int.toNat_natCast, Option.isNone_none, Option.isNone_some, Bool.not_true, Bool.not_false, Bool.xor_true, Bool.xor_false, Bool.true_xor, Bool.false_xor, decide_true, decide_false, Bool.and_true, Bool.true_and, Bool.and_false, Bool.false_and, eq_self, ne_eq, not_false_eq_true, not_true_eq_false, true_and, and_true, and_self, d1]
    refine fun ρ a w' hs hag => ?_
    obtain ⟨fp', h1, h2⟩ := tab_ends (T' := T) (S' := S) hS hfp hs hag rfl rfl (fun i _ => map_v _ _) (fun i _ => .inl ⟨rfl, rfl⟩)
    exact ⟨fp', by simp [SV.den, CV.den], h1, h2⟩

/-- What the horizon is, behind the first so many sessions. -/
def horV (T : Nat → One) (s : V4) : Nat → V4
  | 0 => s
  | n + 1 => if isT T n then (horV T s n).meet (T n).sn else horV T s n
theorem hor_c (g : Nat) (T : Nat → One) (fp : List Nat) (s : V4) (w : World) (ht : TabIs g T fp w) :
    Calls Try.prog 36 #[ptr g, s.v] w (Turns g fp (horV T s 9).v T w) := by
  refine tab_calls ht 23 _ Try.func36 rfl Try.ntmps36 Try.results36 [.c (.p 0 0 0), sv4 s.a s.b s.c s.d] (by simp) (fun ρ h => by simp [SV.denL, SV.den, CV.den, CV.denL, h]) fun S hS hfp => ?_
  simp only [go_sem, ↓reduceIte, Nat.reduceEqDiff, Nat.reduceLT, Nat.reduceLeDiff, Nat.reduceAdd, Nat.reduceMul, Nat.reduceSub, Nat.reduceDiv, Nat.reduceMod, Int.reduceToNat, Int.reduceLT, Int.reduceLE, Int.reduceAdd, Int.reduceSub, Int.reduceMul, Int.reduceEq, Int.reduceNeg, reduceCtorEq, or_false, false_or, decide_true, decide_false, Int.cast_ofNat_Int, Nat.zero_add, Nat.add_zero, Int.toNat_natCast, Option.isNone_none, Option.isNone_some, Bool.not_true, Bool.not_false, Bool.xor_true, Bool.xor_false, Bool.true_xor, Bool.false_xor, decide_true, decide_false, Bool.and_true, Bool.true_and, Bool.and_false, Bool.false_and, eq_self, ne_eq, not_false_eq_true, not_true_eq_false, true_and, and_true, and_self]
  refine sloop (fun p : Nat × Nat => ⟨[(7, .c (.v (.int .i64 (p.1 : Nat)))), (3, .c (.p 2 0 0)), (4, .c (.p 3 0 0)), (0, .c (.p 0 0 0))], [(3, .cells 25 [cu 0, cu 0, cu 0, cu 0]), (2, .cells 25 [cu (horV T s p.1).a, cu (horV T s p.1).b, cu (horV T s p.1).c, cu (horV T s p.1).d]), (0, .rows 162 10 9 9 fun i => ((T i).row (S i)).map .v), (1, .pred (restf (List.range 9) S) (Wrs (List.range 9) T S))], p.2⟩) (fun p => p.1 ≤ 9 ∧ 4 ≤ p.2) (fun p => 9 - p.1) (0, 4) (by simp) (ent_drop ⟨rfl, rfl, rfl, rfl, trivial⟩ ⟨rfl, rfl, rfl, rfl, trivial⟩ (by simp)) (fun p hp => ?_)
  obtain ⟨i, m⟩ := p
  obtain ⟨hp, hm⟩ : i ≤ 9 ∧ 4 ≤ m := hp
  by_cases h : i < 9
  · have d1 : decide ((i : Int) < 9) = true := by simp; omega
    have d2 : (0 : Int) ≤ i ∧ (i : Int) < 9 := by omega
    have hrow := row_eq T S i
    have w1 : IntKind.i64.wrap ((i : Int) + 1) = ((i + 1 : Nat) : Int) := wrap_i64 _ (by omega) (by omega)
    simp only [go_sem, ↓reduceIte, Nat.reduceEqDiff, Nat.reduceLT, Nat.reduceLeDiff, Nat.reduceAdd, Nat.reduceMul, Nat.reduceSub, Nat.reduceDiv, Nat.reduceMod, Int.reduceToNat, Int.reduceLT, Int.reduceLE, Int.reduceAdd, Int.reduceSub, Int.reduceMul, Int.reduceEq, Int.reduceNeg, reduceCtorEq, or_false, false_or, decide_true, decide_false, Int.cast_ofNat_Int, Nat.zero_add, Nat.add_zero, Int.toNat_natCast, Option.isNone_none, Option.isNone_some, Bool.not_true, Bool.not_false, Bool.xor_true, Bool.xor_false, Bool.true_xor, Bool.false_xor, decide_true, decide_false, Bool.and_true, Bool.true_and, Bool.and_false, Bool.false_and, eq_self, ne_eq, not_false_eq_true, not_true_eq_false, true_and, and_true, and_self, d1]
    refine scall_in 23 _ Try.func84 rfl Try.ntmps84 Try.results84 Try.call84 ?_
    simp only [go_sem, ↓reduceIte, Nat.reduceEqDiff, Nat.reduceLT, Nat.reduceLeDiff, Nat.reduceAdd, Nat.reduceMul, Nat.reduceSub, Nat.reduceDiv, Nat.reduceMod, Int.reduceToNat, Int.reduceLT, Int.reduceLE, Int.reduceAdd, Int.reduceSub, Int.reduceMul, Int.reduceEq, Int.reduceNeg, reduceCtorEq, or_false, false_or, decide_true, decide_false, Int.cast_ofNat_Int, Nat.zero_add, Nat.add_zero, Int.toNat_natCast, Option.isNone_none, Option.isNone_some, Bool.not_true, Bool.not_false, Bool.xor_true, Bool.xor_false, Bool.true_xor, Bool.false_xor, decide_true, decide_false, Bool.and_true, Bool.true_and, Bool.and_false, Bool.false_and, eq_self, ne_eq, not_false_eq_true, not_true_eq_false, true_and, and_true, and_self]
    refine scall_in 16 _ Try.func81 rfl Try.ntmps81 Try.results81 Try.call81 ?_
    by_cases h0 : i = 0
    · subst h0
      simp only [go_sem, ↓reduceIte, Nat.reduceEqDiff, Nat.reduceLT, Nat.reduceLeDiff, Nat.reduceAdd, Nat.reduceMul, Nat.reduceSub, Nat.reduceDiv, Nat.reduceMod, Int.reduceToNat, Int.reduceLT, Int.reduceLE, Int.reduceAdd, Int.reduceSub, Int.reduceMul, Int.reduceEq, Int.reduceNeg, reduceCtorEq, or_false, false_or, decide_true, decide_false, Int.cast_ofNat_Int, Nat.zero_add, Nat.add_zero, Int.toNat_natCast, Option.isNone_none, Option.isNone_some, Bool.not_true, Bool.not_false, Bool.xor_true, Bool.xor_false, Bool.true_xor, Bool.false_xor, decide_true, decide_false, Bool.and_true, Bool.true_and, Bool.and_false, Bool.false_and, eq_self, ne_eq, not_false_eq_true, not_true_eq_false, true_and, and_true, and_self, w1]
      have e : horV T s (0 + 1) = horV T s 0 := by simp [horV, isT, inS]
      refine ⟨(0 + 1, m), ⟨by show 0 + 1 ≤ 9; omega, hm⟩, by show 9 - (0 + 1) < 9; omega, ent_drop ⟨rfl, rfl, rfl, rfl, trivial⟩ ?_ (by simp)⟩
      simp only [e]; exact ⟨rfl, rfl, rfl, rfl, trivial⟩
    have d3 : decide ((i : Int) < 1) = false := by simp; omega
    have d4 : decide (8 < (i : Int)) = false := by simp; omega
    have hin : inS i = true := by simp [inS]; omega
    cases hi : (T i).is
    · simp only [go_sem, ↓reduceIte, Nat.reduceEqDiff, Nat.reduceLT, Nat.reduceLeDiff, Nat.reduceAdd, Nat.reduceMul, Nat.reduceSub, Nat.reduceDiv, Nat.reduceMod, Int.reduceToNat, Int.reduceLT, Int.reduceLE, Int.reduceAdd, Int.reduceSub, Int.reduceMul, Int.reduceEq, Int.reduceNeg, reduceCtorEq, or_false, false_or, decide_true, decide_false, Int.cast_ofNat_Int, Nat.zero_add, Nat.add_zero, Int.toNat_natCast, Option.isNone_none, Option.isNone_some, Bool.not_true, Bool.not_false, Bool.xor_true, Bool.xor_false, Bool.true_xor, Bool.false_xor, decide_true, decide_false, Bool.and_true, Bool.true_and, Bool.and_false, Bool.false_and, eq_self, ne_eq, not_false_eq_true, not_true_eq_false, true_and, and_true, and_self, d3, d4, d2, hrow, hi, w1, h]
      have e : horV T s (i + 1) = horV T s i := by simp [horV, isT, hi]
      refine ⟨(i + 1, m), ⟨by show i + 1 ≤ 9; omega, hm⟩, by show 9 - (i + 1) < 9 - i; omega, ent_drop ⟨rfl, rfl, rfl, rfl, trivial⟩ ?_ (by simp)⟩
      simp only [e]; exact ⟨rfl, rfl, rfl, rfl, trivial⟩
    · simp only [go_sem, ↓reduceIte, Nat.reduceEqDiff, Nat.reduceLT, Nat.reduceLeDiff, Nat.reduceAdd, Nat.reduceMul, Nat.reduceSub, Nat.reduceDiv, Nat.reduceMod, Int.reduceToNat, Int.reduceLT, Int.reduceLE, Int.reduceAdd, Int.reduceSub, Int.reduceMul, Int.reduceEq, Int.reduceNeg, reduceCtorEq, or_false, false_or, decide_true, decide_false, Int.cast_ofNat_Int, Nat.zero_add, Nat.add_zero, Int.toNat_natCast, Option.isNone_none, Option.isNone_some, Bool.not_true, Bool.not_false, Bool.xor_true, Bool.xor_false, Bool.true_xor, Bool.false_xor, decide_true, decide_false, Bool.and_true, Bool.true_and, Bool.and_false, Bool.false_and, eq_self, ne_eq, not_false_eq_true, not_true_eq_false, true_and, and_true, and_self, d3, d4, d2, hrow, hi, w1, h]
      refine sdraw0 [.t 0, .t 1, .t 2, .t 3, .t 4, .r 5, .r 6] 6 rfl (by kernel_rfl) ?_
      simp only [go_sem, ↓reduceIte, Nat.reduceEqDiff, Nat.reduceLT, Nat.reduceLeDiff, Nat.reduceAdd, Nat.reduceMul, Nat.reduceSub, Nat.reduceDiv, Nat.reduceMod, Int.reduceToNat, Int.reduceLT, Int.reduceLE, Int.reduceAdd, Int.reduceSub, Int.reduceMul, Int.reduceEq, Int.reduceNeg, reduceCtorEq, or_false, false_or, decide_true, decide_false, Int.cast_ofNat_Int, Nat.zero_add, Nat.add_zero, Int.toNat_natCast, Option.isNone_none, Option.isNone_some, Bool.not_true, Bool.not_false, Bool.xor_true, Bool.xor_false, Bool.true_xor, Bool.false_xor, decide_true, decide_false, Bool.and_true, Bool.true_and, Bool.and_false, Bool.false_and, eq_self, ne_eq, not_false_eq_true, not_true_eq_false, true_and, and_true, and_self, hrow, h]
      refine scall_pure [(horV T s i).v, (T i).sn.v] ((horV T s i).meet (T i).sn).s ((horV T s i).meet (T i).sn).v Try.call44 (meet_c _ _) rfl (fun _ => rfl) (fun _ => rfl) ?_
      simp only [go_sem, ↓reduceIte, Nat.reduceEqDiff, Nat.reduceLT, Nat.reduceLeDiff, Nat.reduceAdd, Nat.reduceMul, Nat.reduceSub, Nat.reduceDiv, Nat.reduceMod, Int.reduceToNat, Int.reduceLT, Int.reduceLE, Int.reduceAdd, Int.reduceSub, Int.reduceMul, Int.reduceEq, Int.reduceNeg, reduceCtorEq, or_false, false_or, decide_true, decide_false, Int.cast_ofNat_Int, Nat.zero_add, Nat.add_zero, Int.toNat_natCast, Option.isNone_none, Option.isNone_some, Bool.not_true, Bool.not_false, Bool.xor_true, Bool.xor_false, Bool.true_xor, Bool.false_xor, decide_true, decide_false, Bool.and_true, Bool.true_and, Bool.and_false, Bool.false_and, eq_self, ne_eq, not_false_eq_true, not_true_eq_false, true_and, and_true, and_self, w1]
      have e : horV T s (i + 1) = (horV T s i).meet (T i).sn := by simp [horV, isT, hi, hin]
      refine ⟨(i + 1, m), ⟨by show i + 1 ≤ 9; omega, hm⟩, by show 9 - (i + 1) < 9 - i; omega, ent_drop ⟨rfl, rfl, rfl, rfl, trivial⟩ ?_ (by simp)⟩
      simp only [e]; exact ⟨rfl, rfl, rfl, rfl, trivial⟩
  · have : i = 9 := by omega
    subst this
    have d1 : decide (((9 : Nat) : Int) < 9) = false := by decide
    simp only [go_sem, ↓reduceIte, Nat.reduceEqDiff, Nat.reduceLT, Nat.reduceLeDiff, Nat.reduceAdd, Nat.reduceMul, Nat.reduceSub, Nat.reduceDiv, Nat.reduceMod, Int.reduceToNat, Int.reduceLT, Int.reduceLE, Int.reduceAdd, Int.reduceSub, Int.reduceMul, Int.reduceEq, Int.reduceNeg, reduceCtorEq, or_false, false_or, decide_true, decide_false, Int.cast_ofNat_Int, Nat.zero_add, Nat.add_zero, Int.toNat_natCast, Option.isNone_none, Option.isNone_some, Bool.not_true, Bool.not_false, Bool.xor_true, Bool.xor_false, Bool.true_xor, Bool.false_xor, decide_true, decide_false, Bool.and_true, Bool.true_and, Bool.and_false, Bool.false_and, eq_self, ne_eq, not_false_eq_true, not_true_eq_false, true_and, and_true, and_self, d1]
    refine fun ρ a w' hs hag => ?_
    obtain ⟨fp', h1, h2⟩ := tab_ends (T' := T) (S' := S) hS hfp hs hag rfl rfl (fun i _ => map_v _ _) (fun i _ => .inl ⟨rfl, rfl⟩)
    exact ⟨fp', by simp [SV.den, CV.den, CV.denL], h1, h2⟩
end Go.Proofs.Ytfokingbglkmjaa
