/-
  There are just so many sessions, each with one transaction at most. Conditions: none.
-/
import Derived.Test.YtfokingbglkmjaaSess10
namespace Go.Proofs.Ytfokingbglkmjaa
open Go.RowKit Go.Sx
set_option linter.unusedVariables false
set_option linter.unusedSimpArgs false

/-- The table behind Begin of each session below k. -/
def begT (s : V4) (k : Nat) : Nat → One := fun i => if decide (1 ≤ i) && decide (i < k) && decide (i ≤ 8) && s.right then ⟨⟨0, 0, 0, 0⟩, some (s, [])⟩ else none1
def begE (s : V4) (k : Nat) (x : Int) : Int := if inS k && s.right then x else 1
theorem inS_n (k : Nat) : inS k = (decide (1 ≤ k) && decide (k ≤ 8)) := by
  rw [Bool.eq_iff_iff]; simp [inS]; omega
theorem begT_at (s : V4) (k : Nat) : (begT s k k).op = none := by simp [begT, none1]
theorem begT_at' (s : V4) (k : Nat) (h : (inS k && s.right) = true) : (begT s (k + 1) k).op = some (s, []) := by
  rw [inS_n] at h; simp at h
  simp [begT, h]
theorem beg_e1 (s : V4) (k : Nat) : beginE (begT s k) k s = begE s k 0 := by
  simp [beginE, begE, begT_at]
theorem beg_t1 (s : V4) (k : Nat) : beginT (begT s k) k s = begT s (k + 1) := by
  unfold beginT
  simp only [Int.toNat_natCast, begT_at, Option.isNone_none, Bool.and_true]
  rw [inS_n]
  funext i
  by_cases hik : i = k
  · subst hik
    by_cases h : (decide (1 ≤ i) && decide (i ≤ 8) && s.right) = true
    · rw [if_pos h, upd_same]
      simp at h
      simp [begT, h, none1]
    · rw [if_neg h]
      simp at h
      simp only [begT]
      have h2 : (decide (1 ≤ i) && decide (i < i) && decide (i ≤ 8) && s.right) = false := by simp
      have h3 : (decide (1 ≤ i) && decide (i < i + 1) && decide (i ≤ 8) && s.right) = false := by simp; intro a b; exact h a b
      rw [h2, h3]
  · have h1 : (decide (i < k)) = decide (i < k + 1) := by rw [Bool.eq_iff_iff]; simp; omega
    split
    · rw [upd_ne _ _ hik]; simp only [begT, h1]
    · simp only [begT, h1]
theorem beg_e2 (s : V4) (k : Nat) : beginE (begT s (k + 1)) k s = begE s k 6 := by
  unfold beginE begE
  by_cases h : (inS k && s.right) = true
  · rw [if_pos h, if_pos h, Int.toNat_natCast, begT_at' s k h]; rfl
  · rw [if_neg h, if_neg h]
theorem beg_t2 (s : V4) (k : Nat) : beginT (begT s (k + 1)) k s = begT s (k + 1) := by
  unfold beginT
  by_cases h : (inS k && s.right) = true
  · rw [if_neg]; rw [Int.toNat_natCast, begT_at' s k h]; simp
  · rw [if_neg]; intro h2; rw [Bool.and_eq_true] at h2; exact h h2.1

theorem begT_is (s : V4) (id : Int) : isT (begT s 10) id = (inS id && s.right) := by
  unfold isT
  cases h : inS id
  · rfl
  · simp [inS] at h
    have : begT s 10 id.toNat = if s.right then ⟨⟨0, 0, 0, 0⟩, some (s, [])⟩ else none1 := by
      simp only [begT]
      rw [show decide (1 ≤ id.toNat) = true by simp; omega, show decide (id.toNat < 10) = true by simp; omega, show decide (id.toNat ≤ 8) = true by simp; omega]
      simp
    rw [this]
    cases s.right <;> rfl
theorem begT_sn (s : V4) (id : Int) : (inS id && s.right) = true → snapV (begT s 10) id = s := fun hh => by
  have h1 := begT_is s id
  unfold snapV
  unfold isT at h1
  rw [hh] at h1
  rw [h1]
  simp at hh
  obtain ⟨h, hr⟩ := hh
  simp [inS] at h
  simp only [if_true, begT]
  rw [show decide (1 ≤ id.toNat) = true by simp; omega, show decide (id.toNat < 10) = true by simp; omega, show decide (id.toNat ≤ 8) = true by simp; omega, hr]
  rfl
theorem begT_many (s : V4) : (manyN (begT s 10) 9 : Int) = if s.right then 8 else 0 := by
  cases h : s.right
  · simp [manyN, begT, One.is, none1, h]
  · simp [manyN, begT, One.is, none1, h, List.range, List.range.loop]
theorem begT_end (s : V4) (id : Int) : endE (seeT (begT s 10) id s) id = if inS id && s.right then 0 else 5 := by
  have h1 := begT_is s id
  unfold endE seeT
  unfold isT at h1
  cases hi : inS id
  · simp
  · rw [hi] at h1
    cases hr : s.right
    · rw [hr] at h1; simp at h1; simp [h1]
    · rw [hr] at h1; simp at h1; simp [upd_same, One.is] at h1 ⊢; intro h2; rw [h2] at h1; cases h1

theorem sessMany_c (id : Int) (v : V4) (own : Bool) (w : World) :
    Calls Try.prog 7 #[.int .i64 id, .agg #[vu v.a, vu v.b, vu v.c, vu v.d, .bool own]] w fun e w' => e = .returned (.bool true) ∧ Below w.heap.size w w' := by
  refine calls_pure 116 _ Try.func7 rfl Try.ntmps7 Try.results7 [.c (.v (.int .i64 id)), .agg [cu v.a, cu v.b, cu v.c, cu v.d, .v (.bool own)]] (by simp) (fun _ => rfl) ?_
  simp only [go_sem, ↓reduceIte, Nat.reduceEqDiff, Nat.reduceLT, Nat.reduceLeDiff, Nat.reduceAdd, Nat.reduceMul, Nat.reduceSub, Nat.reduceDiv, Nat.reduceMod, Int.reduceToNat, Int.reduceLT, Int.reduceLE, Int.reduceAdd, Int.reduceSub, Int.reduceMul, Int.reduceEq, Int.reduceNeg, reduceCtorEq, or_false, false_or, decide_true, decide_false, Int.cast_ofNat_Int, Nat.zero_add, Nat.add_zero, Int.toNat_natCast, Option.isNone_none, Option.isNone_some, Bool.not_true, Bool.not_false, Bool.xor_true, Bool.xor_false, Bool.true_xor, Bool.false_xor, decide_true, decide_false, Bool.and_true, Bool.true_and, Bool.and_false, Bool.false_and, eq_self, ne_eq, not_false_eq_true, not_true_eq_false, true_and, and_true, and_self]
  refine scall_pure [] (.c (.v (.bool true))) (.bool true) Try.call15 ex_c rfl (fun _ => rfl) (fun _ => rfl) ?_
  simp only [go_sem, ↓reduceIte, Nat.reduceEqDiff, Nat.reduceLT, Nat.reduceLeDiff, Nat.reduceAdd, Nat.reduceMul, Nat.reduceSub, Nat.reduceDiv, Nat.reduceMod, Int.reduceToNat, Int.reduceLT, Int.reduceLE, Int.reduceAdd, Int.reduceSub, Int.reduceMul, Int.reduceEq, Int.reduceNeg, reduceCtorEq, or_false, false_or, decide_true, decide_false, Int.cast_ofNat_Int, Nat.zero_add, Nat.add_zero, Int.toNat_natCast, Option.isNone_none, Option.isNone_some, Bool.not_true, Bool.not_false, Bool.xor_true, Bool.xor_false, Bool.true_xor, Bool.false_xor, decide_true, decide_false, Bool.and_true, Bool.true_and, Bool.and_false, Bool.false_and, eq_self, ne_eq, not_false_eq_true, not_true_eq_false, true_and, and_true, and_self]
  refine tab_new [] Try.call16 new_c rfl (fun _ => rfl) rfl fun g fp0 => ?_
  simp only [go_sem, ↓reduceIte, Nat.reduceEqDiff, Nat.reduceLT, Nat.reduceLeDiff, Nat.reduceAdd, Nat.reduceMul, Nat.reduceSub, Nat.reduceDiv, Nat.reduceMod, Int.reduceToNat, Int.reduceLT, Int.reduceLE, Int.reduceAdd, Int.reduceSub, Int.reduceMul, Int.reduceEq, Int.reduceNeg, reduceCtorEq, or_false, false_or, decide_true, decide_false, Int.cast_ofNat_Int, Nat.zero_add, Nat.add_zero, Int.toNat_natCast, Option.isNone_none, Option.isNone_some, Bool.not_true, Bool.not_false, Bool.xor_true, Bool.xor_false, Bool.true_xor, Bool.false_xor, decide_true, decide_false, Bool.and_true, Bool.true_and, Bool.and_false, Bool.false_and, eq_self, ne_eq, not_false_eq_true, not_true_eq_false, true_and, and_true, and_self]
  obtain ⟨s, hs0⟩ : ∃ s, s = few v own := ⟨_, rfl⟩
  refine scall_pure [.agg #[vu v.a, vu v.b, vu v.c, vu v.d, .bool own]] (sv4 s.a s.b s.c s.d) s.v Try.call17 (fun w => by rw [hs0]; exact vector_c v own w) rfl (fun _ => rfl) (fun _ => rfl) ?_
  clear hs0
  simp only [go_sem, ↓reduceIte, Nat.reduceEqDiff, Nat.reduceLT, Nat.reduceLeDiff, Nat.reduceAdd, Nat.reduceMul, Nat.reduceSub, Nat.reduceDiv, Nat.reduceMod, Int.reduceToNat, Int.reduceLT, Int.reduceLE, Int.reduceAdd, Int.reduceSub, Int.reduceMul, Int.reduceEq, Int.reduceNeg, reduceCtorEq, or_false, false_or, decide_true, decide_false, Int.cast_ofNat_Int, Nat.zero_add, Nat.add_zero, Int.toNat_natCast, Option.isNone_none, Option.isNone_some, Bool.not_true, Bool.not_false, Bool.xor_true, Bool.xor_false, Bool.true_xor, Bool.false_xor, decide_true, decide_false, Bool.and_true, Bool.true_and, Bool.and_false, Bool.false_and, eq_self, ne_eq, not_false_eq_true, not_true_eq_false, true_and, and_true, and_self]
  refine scall_pure [s.v] (.c (.v (.bool s.right))) (.bool s.right) Try.call40 (right_c s) rfl (fun _ => rfl) (fun _ => rfl) ?_
  simp only [go_sem, ↓reduceIte, Nat.reduceEqDiff, Nat.reduceLT, Nat.reduceLeDiff, Nat.reduceAdd, Nat.reduceMul, Nat.reduceSub, Nat.reduceDiv, Nat.reduceMod, Int.reduceToNat, Int.reduceLT, Int.reduceLE, Int.reduceAdd, Int.reduceSub, Int.reduceMul, Int.reduceEq, Int.reduceNeg, reduceCtorEq, or_false, false_or, decide_true, decide_false, Int.cast_ofNat_Int, Nat.zero_add, Nat.add_zero, Int.toNat_natCast, Option.isNone_none, Option.isNone_some, Bool.not_true, Bool.not_false, Bool.xor_true, Bool.xor_false, Bool.true_xor, Bool.false_xor, decide_true, decide_false, Bool.and_true, Bool.true_and, Bool.and_false, Bool.false_and, eq_self, ne_eq, not_false_eq_true, not_true_eq_false, true_and, and_true, and_self]
  rw [show (fun _ => none1) = begT s 0 from funext fun i => by simp [begT]]
  refine sloop (fun p : Nat × List Nat => ⟨[(9, .c (.v (.int .i64 (p.1 : Nat)))), (8, .c (.v (.bool s.right))), (7, .c (.p 2 0 0)), (6, .c (.v (ptr g))), (5, .c (.v (.bool true))), (0, .c (.v (.int .i64 id)))], [(2, .cells 25 [cu s.a, cu s.b, cu s.c, cu s.d]), (1, .pred p.2 (TabIs g (begT s p.1) p.2))], 3⟩) (fun p => p.1 ≤ 10) (fun p => 10 - p.1) (0, fp0) (by simp) (ent_drop ⟨rfl, rfl, rfl, rfl, rfl, rfl, trivial⟩ ⟨rfl, rfl, trivial⟩ (by simp)) (fun p hp => ?_)
  obtain ⟨k, fp⟩ := p
  have hp : k ≤ 10 := hp
  by_cases h : k ≤ 9
  · have d1 : decide ((k : Int) ≤ 9) = true := by simp; omega
    have w1 : IntKind.i64.wrap ((k : Int) + 1) = ((k + 1 : Nat) : Int) := wrap_i64 _ (by omega) (by omega)
    have hin : ∃ b1 b2, decide ((1 : Int) ≤ k) = b1 ∧ decide ((k : Int) ≤ 8) = b2 ∧ inS k = (b1 && b2) := ⟨_, _, rfl, rfl, rfl⟩
    obtain ⟨b1, b2, hb1, hb2, hin⟩ := hin
    cases b1 <;> cases b2 <;> cases hr : s.right
    all_goals
      first
        | (have hE : begE s k 0 = 0 ∧ begE s k 6 = 6 := by simp [begE, hin, hr])
        | (have hE : begE s k 0 = 1 ∧ begE s k 6 = 1 := by simp [begE, hin, hr])
      obtain ⟨hE0, hE6⟩ := hE
      simp only [go_sem, ↓reduceIte, Nat.reduceEqDiff, Nat.reduceLT, Nat.reduceLeDiff, Nat.reduceAdd, Nat.reduceMul, Nat.reduceSub, Nat.reduceDiv, Nat.reduceMod, Int.reduceToNat, Int.reduceLT, Int.reduceLE, Int.reduceAdd, Int.reduceSub, Int.reduceMul, Int.reduceEq, Int.reduceNeg, reduceCtorEq, or_false, false_or, decide_true, decide_false, Int.cast_ofNat_Int, Nat.zero_add, Nat.add_zero, Int.toNat_natCast, Option.isNone_none, Option.isNone_some, Bool.not_true, Bool.not_false, Bool.xor_true, Bool.xor_false, Bool.true_xor, Bool.false_xor, decide_true, decide_false, Bool.and_true, Bool.true_and, Bool.and_false, Bool.false_and, eq_self, ne_eq, not_false_eq_true, not_true_eq_false, true_and, and_true, and_self, d1, hb1, hb2, hr]
      refine tab_call 1 (T := begT s k) (T' := begT s (k + 1)) (v := .int .i64 (begE s k 0)) [ptr g, .int .i64 k, s.v] (.c (.v (.int .i64 (begE s k 0)))) Try.call19 (fun w h => by have := begin_c g _ _ k s w h; rw [beg_e1, beg_t1] at this; exact this) rfl rfl (fun _ => rfl) (fun _ => rfl) rfl fun fp1 => ?_
      simp only [go_sem, ↓reduceIte, Nat.reduceEqDiff, Nat.reduceLT, Nat.reduceLeDiff, Nat.reduceAdd, Nat.reduceMul, Nat.reduceSub, Nat.reduceDiv, Nat.reduceMod, Int.reduceToNat, Int.reduceLT, Int.reduceLE, Int.reduceAdd, Int.reduceSub, Int.reduceMul, Int.reduceEq, Int.reduceNeg, reduceCtorEq, or_false, false_or, decide_true, decide_false, Int.cast_ofNat_Int, Nat.zero_add, Nat.add_zero, Int.toNat_natCast, Option.isNone_none, Option.isNone_some, Bool.not_true, Bool.not_false, Bool.xor_true, Bool.xor_false, Bool.true_xor, Bool.false_xor, decide_true, decide_false, Bool.and_true, Bool.true_and, Bool.and_false, Bool.false_and, eq_self, ne_eq, not_false_eq_true, not_true_eq_false, true_and, and_true, and_self, hE0]
      refine tab_call 1 (T := begT s (k + 1)) (T' := begT s (k + 1)) (v := .int .i64 (begE s k 6)) [ptr g, .int .i64 k, s.v] (.c (.v (.int .i64 (begE s k 6)))) Try.call19 (fun w h => by have := begin_c g _ _ k s w h; rw [beg_e2, beg_t2] at this; exact this) rfl rfl (fun _ => rfl) (fun _ => rfl) rfl fun fp2 => ?_
      simp only [go_sem, ↓reduceIte, Nat.reduceEqDiff, Nat.reduceLT, Nat.reduceLeDiff, Nat.reduceAdd, Nat.reduceMul, Nat.reduceSub, Nat.reduceDiv, Nat.reduceMod, Int.reduceToNat, Int.reduceLT, Int.reduceLE, Int.reduceAdd, Int.reduceSub, Int.reduceMul, Int.reduceEq, Int.reduceNeg, reduceCtorEq, or_false, false_or, decide_true, decide_false, Int.cast_ofNat_Int, Nat.zero_add, Nat.add_zero, Int.toNat_natCast, Option.isNone_none, Option.isNone_some, Bool.not_true, Bool.not_false, Bool.xor_true, Bool.xor_false, Bool.true_xor, Bool.false_xor, decide_true, decide_false, Bool.and_true, Bool.true_and, Bool.and_false, Bool.false_and, eq_self, ne_eq, not_false_eq_true, not_true_eq_false, true_and, and_true, and_self, hE6, w1]
      exact ⟨(k + 1, fp2), by show k + 1 ≤ 10; omega, by show 10 - (k + 1) < 10 - k; omega, ent_drop ⟨rfl, rfl, rfl, rfl, rfl, rfl, trivial⟩ ⟨rfl, rfl, trivial⟩ (by simp)⟩
  · have hk : k = 10 := by omega
    subst hk
    have d1 : decide (((10 : Nat) : Int) ≤ 9) = false := by decide
    have hin : ∃ b1 b2, decide ((1 : Int) ≤ id) = b1 ∧ decide (id ≤ 8) = b2 ∧ inS id = (b1 && b2) := ⟨_, _, rfl, rfl, rfl⟩
    obtain ⟨b1, b2, hb1, hb2, hin⟩ := hin
    have f1 := begT_is s id
    have f2 := begT_sn s id
    have f3 := begT_many s
    have f5 := begT_end s id
    have f4 : seeE id s = (inS id && s.right) := rfl
    cases b1 <;> cases b2 <;> cases hr : s.right
    all_goals
      simp only [hin, hr, Bool.true_and, Bool.false_and, Bool.and_true, Bool.and_false, if_true, if_false, Bool.false_eq_true, forall_const, false_implies] at f1 f2 f3 f4 f5
      obtain ⟨y, hy⟩ : ∃ y, snapV (begT s 10) id = y := ⟨_, rfl⟩
      first
        | (rw [f2] at hy; subst hy)
        | skip
      simp only [go_sem, ↓reduceIte, Nat.reduceEqDiff, Nat.reduceLT, Nat.reduceLeDiff, Nat.reduceAdd, Nat.reduceMul, Nat.reduceSub, Nat.reduceDiv, Nat.reduceMod, Int.reduceToNat, Int.reduceLT, Int.reduceLE, Int.reduceAdd, Int.reduceSub, Int.reduceMul, Int.reduceEq, Int.reduceNeg, reduceCtorEq, or_false, false_or, decide_true, decide_false, Int.cast_ofNat_Int, Nat.zero_add, Nat.add_zero, Int.toNat_natCast, Option.isNone_none, Option.isNone_some, Bool.not_true, Bool.not_false, Bool.xor_true, Bool.xor_false, Bool.true_xor, Bool.false_xor, decide_true, decide_false, Bool.and_true, Bool.true_and, Bool.and_false, Bool.false_and, eq_self, ne_eq, not_false_eq_true, not_true_eq_false, true_and, and_true, and_self, d1, hb1, hb2, hr]
      refine tab_call 1 (T := begT s 10) (T' := begT s 10) (v := .tuple #[V4.v _, .bool _]) [ptr g, .int .i64 id] (.tup [sv4 _ _ _ _, .c (.v (.bool _))]) Try.call28 (fun w h => by have := snap_c g _ _ id w h; first | (rw [f1, hy] at this; exact this) | (rw [f1, f2] at this; exact this)) rfl rfl (fun _ => rfl) (fun _ => rfl) rfl fun fp1 => ?_
      simp only [go_sem, ↓reduceIte, Nat.reduceEqDiff, Nat.reduceLT, Nat.reduceLeDiff, Nat.reduceAdd, Nat.reduceMul, Nat.reduceSub, Nat.reduceDiv, Nat.reduceMod, Int.reduceToNat, Int.reduceLT, Int.reduceLE, Int.reduceAdd, Int.reduceSub, Int.reduceMul, Int.reduceEq, Int.reduceNeg, reduceCtorEq, or_false, false_or, decide_true, decide_false, Int.cast_ofNat_Int, Nat.zero_add, Nat.add_zero, Int.toNat_natCast, Option.isNone_none, Option.isNone_some, Bool.not_true, Bool.not_false, Bool.xor_true, Bool.xor_false, Bool.true_xor, Bool.false_xor, decide_true, decide_false, Bool.and_true, Bool.true_and, Bool.and_false, Bool.false_and, eq_self, ne_eq, not_false_eq_true, not_true_eq_false, true_and, and_true, and_self, hr]
      refine tab_call 1 (T := begT s 10) (T' := begT s 10) (v := .int .i64 _) [ptr g] (.c (.v (.int .i64 _))) Try.call38 (fun w h => by have := many_c g _ _ w h; rw [f3] at this; exact this) rfl rfl (fun _ => rfl) (fun _ => rfl) rfl fun fp1 => ?_
      simp only [go_sem, ↓reduceIte, Nat.reduceEqDiff, Nat.reduceLT, Nat.reduceLeDiff, Nat.reduceAdd, Nat.reduceMul, Nat.reduceSub, Nat.reduceDiv, Nat.reduceMod, Int.reduceToNat, Int.reduceLT, Int.reduceLE, Int.reduceAdd, Int.reduceSub, Int.reduceMul, Int.reduceEq, Int.reduceNeg, reduceCtorEq, or_false, false_or, decide_true, decide_false, Int.cast_ofNat_Int, Nat.zero_add, Nat.add_zero, Int.toNat_natCast, Option.isNone_none, Option.isNone_some, Bool.not_true, Bool.not_false, Bool.xor_true, Bool.xor_false, Bool.true_xor, Bool.false_xor, decide_true, decide_false, Bool.and_true, Bool.true_and, Bool.and_false, Bool.false_and, eq_self, ne_eq, not_false_eq_true, not_true_eq_false, true_and, and_true, and_self]
      refine tab_call 1 (T := begT s 10) (T' := seeT (begT s 10) id s) (v := .bool _) [ptr g, .int .i64 id, s.v] (.c (.v (.bool _))) Try.call23 (fun w h => by have := see_c g _ _ id s w h; rw [f4] at this; exact this) rfl rfl (fun _ => rfl) (fun _ => rfl) rfl fun fp1 => ?_
      simp only [go_sem, ↓reduceIte, Nat.reduceEqDiff, Nat.reduceLT, Nat.reduceLeDiff, Nat.reduceAdd, Nat.reduceMul, Nat.reduceSub, Nat.reduceDiv, Nat.reduceMod, Int.reduceToNat, Int.reduceLT, Int.reduceLE, Int.reduceAdd, Int.reduceSub, Int.reduceMul, Int.reduceEq, Int.reduceNeg, reduceCtorEq, or_false, false_or, decide_true, decide_false, Int.cast_ofNat_Int, Nat.zero_add, Nat.add_zero, Int.toNat_natCast, Option.isNone_none, Option.isNone_some, Bool.not_true, Bool.not_false, Bool.xor_true, Bool.xor_false, Bool.true_xor, Bool.false_xor, decide_true, decide_false, Bool.and_true, Bool.true_and, Bool.and_false, Bool.false_and, eq_self, ne_eq, not_false_eq_true, not_true_eq_false, true_and, and_true, and_self]
      refine tab_call 1 (T := seeT (begT s 10) id s) (T' := endT (seeT (begT s 10) id s) id) (v := .int .i64 _) [ptr g, .int .i64 id] (.c (.v (.int .i64 _))) Try.call21 (fun w h => by have := end_c g _ _ id w h; rw [f5] at this; exact this) rfl rfl (fun _ => rfl) (fun _ => rfl) rfl fun fp1 => ?_
      simp only [go_sem, ↓reduceIte, Nat.reduceEqDiff, Nat.reduceLT, Nat.reduceLeDiff, Nat.reduceAdd, Nat.reduceMul, Nat.reduceSub, Nat.reduceDiv, Nat.reduceMod, Int.reduceToNat, Int.reduceLT, Int.reduceLE, Int.reduceAdd, Int.reduceSub, Int.reduceMul, Int.reduceEq, Int.reduceNeg, reduceCtorEq, or_false, false_or, decide_true, decide_false, Int.cast_ofNat_Int, Nat.zero_add, Nat.add_zero, Int.toNat_natCast, Option.isNone_none, Option.isNone_some, Bool.not_true, Bool.not_false, Bool.xor_true, Bool.xor_false, Bool.true_xor, Bool.false_xor, decide_true, decide_false, Bool.and_true, Bool.true_and, Bool.and_false, Bool.false_and, eq_self, ne_eq, not_false_eq_true, not_true_eq_false, true_and, and_true, and_self]
      exact fun ρ a w hs _ => ⟨rfl, hs.grown⟩
end Go.Proofs.Ytfokingbglkmjaa
