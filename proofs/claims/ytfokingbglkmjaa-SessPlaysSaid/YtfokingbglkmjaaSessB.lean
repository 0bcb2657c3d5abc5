/-
  What a session has seen only rises; what others see changes nothing of it. Conditions: none.
-/
import Derived.Test.YtfokingbglkmjaaSessA
import Derived.Test.YtfokingbglkmjaaSx13
namespace Go.Proofs.Ytfokingbglkmjaa
open Go.RowKit Go.Sx
set_option linter.unusedVariables false
set_option linter.unusedSimpArgs false

theorem seenV_see (T : Nat → One) (id : Int) (v : V4) (hid : 0 ≤ id) (k : Nat) (h : seeE id v = true) : seenV (seeT T id v) k = if (k : Int) = id then (seenV T id).join v else seenV T k := by
  simp only [seeE, Bool.and_eq_true] at h
  have h' : (inS id && v.right) = true := by simp [h]
  unfold seenV seeT
  rw [if_pos h']
  by_cases hk : (k : Int) = id
  · subst hk
    rw [if_pos h.1, if_pos rfl, if_pos h.1, Int.toNat_natCast, upd_same]
  · rw [if_neg hk]
    by_cases hi : inS k = true
    · rw [if_pos hi, if_pos hi, Int.toNat_natCast, upd_ne _ _ (by omega)]
    · rw [if_neg hi, if_neg hi]
theorem seeT_no (T : Nat → One) (id : Int) (v : V4) (h : seeE id v = false) : seeT T id v = T := by
  unfold seeT; unfold seeE at h; rw [if_neg (by rw [h]; simp)]
theorem seeT_op (T : Nat → One) (id : Int) (v : V4) (h : ∀ k, (T k).op = none) (k : Nat) : (seeT T id v k).op = none := by
  unfold seeT; split
  · unfold upd; split
    · exact h _
    · exact h k
  · exact h k
theorem manyN_none (T : Nat → One) (h : ∀ k, (T k).op = none) (n : Nat) : manyN T n = 0 := by
  simp [manyN, One.is, h]
/-- What each session has seen, in a row of its own. -/
def seenR (T : Nat → One) (k : Nat) : List CV := [cu (seenV T k).a, cu (seenV T k).b, cu (seenV T k).c, cu (seenV T k).d]
theorem seenR_rupd (T : Nat → One) (n : Nat) (v : V4) (h : seeE n v = true) : rupd (seenR T) n [cu ((seenV T n).join v).a, cu ((seenV T n).join v).b, cu ((seenV T n).join v).c, cu ((seenV T n).join v).d] = seenR (seeT T n v) := by
  funext k
  unfold rupd seenR
  rw [seenV_see T n v (by omega) k h]
  by_cases hk : k = n
  · subst hk; simp
  · rw [if_neg hk, if_neg (by omega)]

theorem row_vec {l : List Value} (h : FOk [.i .u64, .i .u64, .i .u64, .i .u64, .b] l) : ∃ (v : V4) (own : Bool), l.map CV.v = [cu v.a, cu v.b, cu v.c, cu v.d, .v (.bool own)] := by
  match l, h with
  | [_, _, _, _, _], ⟨⟨x0, rfl, _⟩, ⟨x1, rfl, _⟩, ⟨x2, rfl, _⟩, ⟨x3, rfl, _⟩, ⟨b, rfl⟩, _⟩ => exact ⟨⟨x0, x1, x2, x3⟩, b, rfl⟩
theorem row_u8 {l : List Value} (h : FOk [.i .u8] l) : ∃ n : Nat, n < 256 ∧ l.map CV.v = [.v (.int .u8 n)] := by
  match l, h with
  | [_], ⟨⟨x0, rfl, hw⟩, _⟩ =>
    simp [Lit.wf, IntKind.min, IntKind.max, IntKind.signed, IntKind.bits] at hw
    exact ⟨x0.toNat, by omega, by simp; omega⟩

theorem u8_of {a : Int} (hw : (Lit.int .u8 a).wf = true) : ∃ n : Nat, n < 256 ∧ a = n := by
  simp [Lit.wf, IntKind.min, IntKind.max, IntKind.signed, IntKind.bits] at hw
  exact ⟨a.toNat, by omega, by omega⟩
theorem sessSees_c (w : World) {b0 o0 m0 b1 o1 m1 : Nat} {r0 r1 : Nat → List Value} {x0 x1 : CV} {v0 v1 : Value} (i0 : ImmAt w b0 o0 5 m0 r0) (i1 : ImmAt w b1 o1 1 m1 r1) (l0 : LArg 0 m0 x0) (l1 : LArg 1 m1 x1)
    (e0 : ∀ ρ : Env, ρ 0 = ⟨b0, o0, 5⟩ → x0.den ρ = v0) (e1 : ∀ ρ : Env, ρ 1 = ⟨b1, o1, 1⟩ → x1.den ρ = v1) (f0 : ∀ i, i < m0 → FOk [.i .u64, .i .u64, .i .u64, .i .u64, .b] (r0 i)) (f1 : ∀ i, i < m1 → FOk [.i .u8] (r1 i)) :
    Calls Try.prog 6 #[v0, v1] w fun e w' => e = .returned (.bool true) ∧ Below w.heap.size w w' := by
  refine calls_imm [⟨b0, o0, 5, m0, r0⟩, ⟨b1, o1, 1, m1, r1⟩] (by simp; exact ⟨i0, i1⟩) 87 _ Try.func6 rfl Try.ntmps6 Try.results6 [.c x0, .c x1] (by simp) (fun ρ h => by simp [SV.denL, SV.den, e0 ρ (h 0 (by simp)), e1 ρ (h 1 (by simp))]) ?_
  have n0 := l0.len
  have n1 := l1.len
  simp only [immL, List.length_cons, List.length_nil, Nat.zero_add, Nat.reduceAdd]
  simp only [go_sem, ↓reduceIte, Nat.reduceEqDiff, Nat.reduceLT, Nat.reduceLeDiff, Nat.reduceAdd, Nat.reduceMul, Nat.reduceSub, Nat.reduceDiv, Nat.reduceMod, Int.reduceToNat, Int.reduceLT, Int.reduceLE, Int.reduceAdd, Int.reduceSub, Int.reduceMul, Int.reduceEq, Int.reduceNeg, reduceCtorEq, or_false, false_or, decide_true, decide_false, Int.cast_ofNat_Int, Nat.zero_add, Nat.add_zero, Int.toNat_natCast, Option.isNone_none, Option.isNone_some, Bool.not_true, Bool.not_false, Bool.xor_true, Bool.xor_false, Bool.true_xor, Bool.false_xor, decide_true, decide_false, Bool.and_true, Bool.true_and, Bool.and_false, Bool.false_and, eq_self, ne_eq, not_false_eq_true, not_true_eq_false, true_and, and_true, and_self]
  refine scall_pure [] (.c (.v (.bool true))) (.bool true) Try.call15 ex_c rfl (fun _ => rfl) (fun _ => rfl) ?_
  simp only [go_sem, ↓reduceIte, Nat.reduceEqDiff, Nat.reduceLT, Nat.reduceLeDiff, Nat.reduceAdd, Nat.reduceMul, Nat.reduceSub, Nat.reduceDiv, Nat.reduceMod, Int.reduceToNat, Int.reduceLT, Int.reduceLE, Int.reduceAdd, Int.reduceSub, Int.reduceMul, Int.reduceEq, Int.reduceNeg, reduceCtorEq, or_false, false_or, decide_true, decide_false, Int.cast_ofNat_Int, Nat.zero_add, Nat.add_zero, Int.toNat_natCast, Option.isNone_none, Option.isNone_some, Bool.not_true, Bool.not_false, Bool.xor_true, Bool.xor_false, Bool.true_xor, Bool.false_xor, decide_true, decide_false, Bool.and_true, Bool.true_and, Bool.and_false, Bool.false_and, eq_self, ne_eq, not_false_eq_true, not_true_eq_false, true_and, and_true, and_self]
  refine tab_new [] Try.call16 new_c rfl (fun _ => rfl) rfl fun g fp0 => ?_
  simp only [go_sem, ↓reduceIte, Nat.reduceEqDiff, Nat.reduceLT, Nat.reduceLeDiff, Nat.reduceAdd, Nat.reduceMul, Nat.reduceSub, Nat.reduceDiv, Nat.reduceMod, Int.reduceToNat, Int.reduceLT, Int.reduceLE, Int.reduceAdd, Int.reduceSub, Int.reduceMul, Int.reduceEq, Int.reduceNeg, reduceCtorEq, or_false, false_or, decide_true, decide_false, Int.cast_ofNat_Int, Nat.zero_add, Nat.add_zero, Int.toNat_natCast, Option.isNone_none, Option.isNone_some, Bool.not_true, Bool.not_false, Bool.xor_true, Bool.xor_false, Bool.true_xor, Bool.false_xor, decide_true, decide_false, Bool.and_true, Bool.true_and, Bool.and_false, Bool.false_and, eq_self, ne_eq, not_false_eq_true, not_true_eq_false, true_and, and_true, and_self]
  refine sloop (fun p : Nat × (Nat → One) × List Nat => ⟨[(8, .c (.v (.int .i64 (p.1 : Nat)))), (7, .c (.p 3 0 0)), (6, .c (.v (ptr g))), (5, .c (.v (.bool true))), (0, .c x0), (1, .c x1)], [(3, .rows 85 4 10 10 (seenR p.2.1)), (2, .pred p.2.2 (TabIs g p.2.1 p.2.2)), (0, .imm 5 m0 fun i => (r0 i).map .v), (1, .imm 1 m1 fun i => (r1 i).map .v)], 4⟩) (fun p => p.1 ≤ 20 ∧ p.1 ≤ m0 ∧ p.1 ≤ m1 ∧ ∀ k, (p.2.1 k).op = none) (fun p => 20 - p.1) (0, (fun _ => none1), fp0) ⟨by simp, by simp, by simp, fun _ => rfl⟩ (Ent.trans (ent_rows 3 (r' := seenR fun _ => none1) rfl (fun i hi => ?_)) (ent_drop ⟨rfl, rfl, rfl, rfl, rfl, rfl, trivial⟩ ⟨rfl, rfl, rfl, rfl, trivial⟩ (by simp))) (fun p hp => ?_)
  · have e : seenV (fun _ => none1) i = ⟨0, 0, 0, 0⟩ := by unfold seenV; split <;> rfl
    rcases (by omega : i = 0 ∨ i = 1 ∨ i = 2 ∨ i = 3 ∨ i = 4 ∨ i = 5 ∨ i = 6 ∨ i = 7 ∨ i = 8 ∨ i = 9) with rfl | rfl | rfl | rfl | rfl | rfl | rfl | rfl | rfl | rfl <;> simp only [seenR, e] <;> rfl
  obtain ⟨i, T, fp⟩ := p
  obtain ⟨hi, hm0, hm1, hT⟩ : i ≤ 20 ∧ i ≤ m0 ∧ i ≤ m1 ∧ ∀ k, (T k).op = none := hp
  by_cases h : i < m0 ∧ i < m1 ∧ i < 20
  · obtain ⟨h0, h1, h2⟩ := h
    have d0 : decide ((i : Int) < m0) = true := by simp; omega
    have d1 : decide ((i : Int) < m1) = true := by simp; omega
    have d2 : decide ((i : Int) < 20) = true := by simp; omega
    have d3 : (0 : Int) ≤ i ∧ (i : Int) < m0 := by omega
    have d4 : (0 : Int) ≤ i ∧ (i : Int) < m1 := by omega
    have w1 : IntKind.i64.wrap ((i : Int) + 1) = ((i + 1 : Nat) : Int) := wrap_i64 _ (by omega) (by omega)
    obtain ⟨c0, rfl⟩ := l0.pos (by omega)
    obtain ⟨c1, rfl⟩ := l1.pos (by omega)
    obtain ⟨v, own, hrow0⟩ := row_vec (f0 i h0)
    obtain ⟨u, hu, hrow1⟩ := row_u8 (f1 i h1)
    have hid : IntKind.i64.wrap ((u : Int).tmod 10) = ((u % 10 : Nat) : Int) := by
      rw [show (u : Int).tmod 10 = ((u % 10 : Nat) : Int) from rfl]; exact wrap_i64 _ (by omega) (by omega)
    have hn : u % 10 < 10 := by omega
    generalize u % 10 = n at hid hn
    obtain ⟨b1, b2, hb1, hb2, hin⟩ : ∃ b1 b2, decide ((1 : Int) ≤ n) = b1 ∧ decide ((n : Int) ≤ 8) = b2 ∧ inS n = (b1 && b2) := ⟨_, _, rfl, rfl, rfl⟩
    have d5 : (0 : Int) ≤ n ∧ (n : Int) < 10 := by omega
    simp only [go_sem, ↓reduceIte, Nat.reduceEqDiff, Nat.reduceLT, Nat.reduceLeDiff, Nat.reduceAdd, Nat.reduceMul, Nat.reduceSub, Nat.reduceDiv, Nat.reduceMod, Int.reduceToNat, Int.reduceLT, Int.reduceLE, Int.reduceAdd, Int.reduceSub, Int.reduceMul, Int.reduceEq, Int.reduceNeg, reduceCtorEq, or_false, false_or, decide_true, decide_false, Int.cast_ofNat_Int, Nat.zero_add, Nat.add_zero, Int.toNat_natCast, Option.isNone_none, Option.isNone_some, Bool.not_true, Bool.not_false, Bool.xor_true, Bool.xor_false, Bool.true_xor, Bool.false_xor, decide_true, decide_false, Bool.and_true, Bool.true_and, Bool.and_false, Bool.false_and, eq_self, ne_eq, not_false_eq_true, not_true_eq_false, true_and, and_true, and_self, d0, d1, d2, d3, d4, hrow0, hrow1, h0, h1, hid]
    obtain ⟨s, hs0⟩ : ∃ s, s = few v own := ⟨_, rfl⟩
    refine scall_pure [.agg #[vu v.a, vu v.b, vu v.c, vu v.d, .bool own]] (sv4 s.a s.b s.c s.d) s.v Try.call17 (fun w => by rw [hs0]; exact vector_c v own w) rfl (fun _ => rfl) (fun _ => rfl) ?_
    clear hs0
    simp only [go_sem, ↓reduceIte, Nat.reduceEqDiff, Nat.reduceLT, Nat.reduceLeDiff, Nat.reduceAdd, Nat.reduceMul, Nat.reduceSub, Nat.reduceDiv, Nat.reduceMod, Int.reduceToNat, Int.reduceLT, Int.reduceLE, Int.reduceAdd, Int.reduceSub, Int.reduceMul, Int.reduceEq, Int.reduceNeg, reduceCtorEq, or_false, false_or, decide_true, decide_false, Int.cast_ofNat_Int, Nat.zero_add, Nat.add_zero, Int.toNat_natCast, Option.isNone_none, Option.isNone_some, Bool.not_true, Bool.not_false, Bool.xor_true, Bool.xor_false, Bool.true_xor, Bool.false_xor, decide_true, decide_false, Bool.and_true, Bool.true_and, Bool.and_false, Bool.false_and, eq_self, ne_eq, not_false_eq_true, not_true_eq_false, true_and, and_true, and_self]
    refine tab_call 2 (T := T) (T' := seeT T n s) (v := .bool (seeE n s)) [ptr g, .int .i64 n, s.v] (.c (.v (.bool (seeE n s)))) Try.call23 (fun w h => see_c g _ _ n s w h) rfl rfl (fun _ => rfl) (fun _ => rfl) rfl fun fp1 => ?_
    have hop := seeT_op T n s hT
    obtain ⟨T', hT'⟩ : ∃ T', seeT T n s = T' := ⟨_, rfl⟩
    cases b1 <;> cases b2 <;> cases hr : s.right
    all_goals
      first
        | (have hE : seeE n s = true := by simp [seeE, hin, hr])
        | (have hE : seeE n s = false := by simp [seeE, hin, hr]
           have hno := seeT_no T n s hE)
      simp only [go_sem, ↓reduceIte, Nat.reduceEqDiff, Nat.reduceLT, Nat.reduceLeDiff, Nat.reduceAdd, Nat.reduceMul, Nat.reduceSub, Nat.reduceDiv, Nat.reduceMod, Int.reduceToNat, Int.reduceLT, Int.reduceLE, Int.reduceAdd, Int.reduceSub, Int.reduceMul, Int.reduceEq, Int.reduceNeg, reduceCtorEq, or_false, false_or, decide_true, decide_false, Int.cast_ofNat_Int, Nat.zero_add, Nat.add_zero, Int.toNat_natCast, Option.isNone_none, Option.isNone_some, Bool.not_true, Bool.not_false, Bool.xor_true, Bool.xor_false, Bool.true_xor, Bool.false_xor, decide_true, decide_false, Bool.and_true, Bool.true_and, Bool.and_false, Bool.false_and, eq_self, ne_eq, not_false_eq_true, not_true_eq_false, true_and, and_true, and_self, hb1, hb2, hE]
      try
        refine scall_pure [s.v] (.c (.v (.bool s.right))) (.bool s.right) Try.call40 (right_c s) rfl (fun _ => rfl) (fun _ => rfl) ?_
        simp only [go_sem, ↓reduceIte, Nat.reduceEqDiff, Nat.reduceLT, Nat.reduceLeDiff, Nat.reduceAdd, Nat.reduceMul, Nat.reduceSub, Nat.reduceDiv, Nat.reduceMod, Int.reduceToNat, Int.reduceLT, Int.reduceLE, Int.reduceAdd, Int.reduceSub, Int.reduceMul, Int.reduceEq, Int.reduceNeg, reduceCtorEq, or_false, false_or, decide_true, decide_false, Int.cast_ofNat_Int, Nat.zero_add, Nat.add_zero, Int.toNat_natCast, Option.isNone_none, Option.isNone_some, Bool.not_true, Bool.not_false, Bool.xor_true, Bool.xor_false, Bool.true_xor, Bool.false_xor, decide_true, decide_false, Bool.and_true, Bool.true_and, Bool.and_false, Bool.false_and, eq_self, ne_eq, not_false_eq_true, not_true_eq_false, true_and, and_true, and_self, hr]
      first
        | (refine sdraw [.t 0, .t 1, .t 2, .t 3, .t 4, .r 5, .t 6, .r 7] 7 [(4, .cells 25 [cu s.a, cu s.b, cu s.c, cu s.d]), (3, .rows 85 4 10 10 (seenR T))] rfl (by kernel_rfl) ⟨rfl, rfl, trivial⟩ ?_
           simp only [go_sem, ↓reduceIte, Nat.reduceEqDiff, Nat.reduceLT, Nat.reduceLeDiff, Nat.reduceAdd, Nat.reduceMul, Nat.reduceSub, Nat.reduceDiv, Nat.reduceMod, Int.reduceToNat, Int.reduceLT, Int.reduceLE, Int.reduceAdd, Int.reduceSub, Int.reduceMul, Int.reduceEq, Int.reduceNeg, reduceCtorEq, or_false, false_or, decide_true, decide_false, Int.cast_ofNat_Int, Nat.zero_add, Nat.add_zero, Int.toNat_natCast, Option.isNone_none, Option.isNone_some, Bool.not_true, Bool.not_false, Bool.xor_true, Bool.xor_false, Bool.true_xor, Bool.false_xor, decide_true, decide_false, Bool.and_true, Bool.true_and, Bool.and_false, Bool.false_and, eq_self, ne_eq, not_false_eq_true, not_true_eq_false, true_and, and_true, and_self, d5, hn, seenR]
           refine scall_pure [V4.v (seenV T n), s.v] (sv4 _ _ _ _) (V4.v ((seenV T n).join s)) Try.call45 (join_c _ s) rfl (fun _ => rfl) (fun _ => rfl) ?_
           simp only [go_sem, ↓reduceIte, Nat.reduceEqDiff, Nat.reduceLT, Nat.reduceLeDiff, Nat.reduceAdd, Nat.reduceMul, Nat.reduceSub, Nat.reduceDiv, Nat.reduceMod, Int.reduceToNat, Int.reduceLT, Int.reduceLE, Int.reduceAdd, Int.reduceSub, Int.reduceMul, Int.reduceEq, Int.reduceNeg, reduceCtorEq, or_false, false_or, decide_true, decide_false, Int.cast_ofNat_Int, Nat.zero_add, Nat.add_zero, Int.toNat_natCast, Option.isNone_none, Option.isNone_some, Bool.not_true, Bool.not_false, Bool.xor_true, Bool.xor_false, Bool.true_xor, Bool.false_xor, decide_true, decide_false, Bool.and_true, Bool.true_and, Bool.and_false, Bool.false_and, eq_self, ne_eq, not_false_eq_true, not_true_eq_false, true_and, and_true, and_self, d5, hn, seenR]
           rw [show (rupd (seenR T) n [cu ((seenV T n).join s).a, cu ((seenV T n).join s).b, cu ((seenV T n).join s).c, cu ((seenV T n).join s).d]) = seenR (seeT T n s) from seenR_rupd T n s hE])
        | rw [show seenR T = seenR (seeT T n s) by rw [hno]]
      rw [hT'] at hop ⊢
      refine sloop (fun p : Nat × List Nat => ⟨[(12, .c (.v (.int .i64 (p.1 : Nat)))), (8, .c (.v (.int .i64 i))), (7, .c (.p 3 0 0)), (6, .c (.v (ptr g))), (5, .c (.v (.bool true))), (0, .c (.s 0 0 m0 c0)), (1, .c (.s 1 0 m1 c1))], [(3, .rows 85 4 10 10 (seenR T')), (2, .pred p.2 (TabIs g T' p.2)), (0, .imm 5 m0 fun i => (r0 i).map .v), (1, .imm 1 m1 fun i => (r1 i).map .v)], 4⟩) (fun p => p.1 ≤ 10) (fun p => 10 - p.1) (0, fp1) (by simp) (ent_low ⟨rfl, rfl, rfl, rfl, rfl, rfl, rfl, trivial⟩ ⟨rfl, rfl, rfl, rfl, trivial⟩ (by simp) (by simp [frBl, SV.bl, CV.bl]) (by simp [hpBl, Blk.bl, CV.blL, seenR, CV.bl, blL_v]) (by simp)) (fun p hp => ?_)
      obtain ⟨k, fp'⟩ := p
      have hk : k ≤ 10 := hp
      by_cases hk9 : k < 10
      · have d6 : decide ((k : Int) < 10) = true := by simp; omega
        have d7 : (0 : Int) ≤ k ∧ (k : Int) < 10 := by omega
        have w2 : IntKind.i64.wrap ((k : Int) + 1) = ((k + 1 : Nat) : Int) := wrap_i64 _ (by omega) (by omega)
        simp only [go_sem, ↓reduceIte, Nat.reduceEqDiff, Nat.reduceLT, Nat.reduceLeDiff, Nat.reduceAdd, Nat.reduceMul, Nat.reduceSub, Nat.reduceDiv, Nat.reduceMod, Int.reduceToNat, Int.reduceLT, Int.reduceLE, Int.reduceAdd, Int.reduceSub, Int.reduceMul, Int.reduceEq, Int.reduceNeg, reduceCtorEq, or_false, false_or, decide_true, decide_false, Int.cast_ofNat_Int, Nat.zero_add, Nat.add_zero, Int.toNat_natCast, Option.isNone_none, Option.isNone_some, Bool.not_true, Bool.not_false, Bool.xor_true, Bool.xor_false, Bool.true_xor, Bool.false_xor, decide_true, decide_false, Bool.and_true, Bool.true_and, Bool.and_false, Bool.false_and, eq_self, ne_eq, not_false_eq_true, not_true_eq_false, true_and, and_true, and_self, d6]
        refine sdraw [.t 0, .t 1, .t 3, .t 4, .t 5, .r 2, .t 6] 7 [(3, .rows 85 4 10 10 (seenR T'))] rfl (by kernel_rfl) ⟨rfl, trivial⟩ ?_
        simp only [go_sem, ↓reduceIte, Nat.reduceEqDiff, Nat.reduceLT, Nat.reduceLeDiff, Nat.reduceAdd, Nat.reduceMul, Nat.reduceSub, Nat.reduceDiv, Nat.reduceMod, Int.reduceToNat, Int.reduceLT, Int.reduceLE, Int.reduceAdd, Int.reduceSub, Int.reduceMul, Int.reduceEq, Int.reduceNeg, reduceCtorEq, or_false, false_or, decide_true, decide_false, Int.cast_ofNat_Int, Nat.zero_add, Nat.add_zero, Int.toNat_natCast, Option.isNone_none, Option.isNone_some, Bool.not_true, Bool.not_false, Bool.xor_true, Bool.xor_false, Bool.true_xor, Bool.false_xor, decide_true, decide_false, Bool.and_true, Bool.true_and, Bool.and_false, Bool.false_and, eq_self, ne_eq, not_false_eq_true, not_true_eq_false, true_and, and_true, and_self, d7, hk9, seenR]
        refine tab_call 2 (T := T') (T' := T') (v := V4.v (seenV T' k)) [ptr g, .int .i64 k] (sv4 _ _ _ _) Try.call34 (fun w h => seen_c g _ _ k w h) rfl rfl (fun _ => rfl) (fun _ => rfl) rfl fun fp2 => ?_
        simp only [go_sem, ↓reduceIte, Nat.reduceEqDiff, Nat.reduceLT, Nat.reduceLeDiff, Nat.reduceAdd, Nat.reduceMul, Nat.reduceSub, Nat.reduceDiv, Nat.reduceMod, Int.reduceToNat, Int.reduceLT, Int.reduceLE, Int.reduceAdd, Int.reduceSub, Int.reduceMul, Int.reduceEq, Int.reduceNeg, reduceCtorEq, or_false, false_or, decide_true, decide_false, Int.cast_ofNat_Int, Nat.zero_add, Nat.add_zero, Int.toNat_natCast, Option.isNone_none, Option.isNone_some, Bool.not_true, Bool.not_false, Bool.xor_true, Bool.xor_false, Bool.true_xor, Bool.false_xor, decide_true, decide_false, Bool.and_true, Bool.true_and, Bool.and_false, Bool.false_and, eq_self, ne_eq, not_false_eq_true, not_true_eq_false, true_and, and_true, and_self, seenR, w2]
        exact ⟨(k + 1, fp2), by show k + 1 ≤ 10; omega, by show 10 - (k + 1) < 10 - k; omega, ent_drop ⟨rfl, rfl, rfl, rfl, rfl, rfl, rfl, trivial⟩ ⟨rfl, rfl, rfl, rfl, trivial⟩ (by simp)⟩
      · have d6 : decide ((k : Int) < 10) = false := by simp; omega
        simp only [go_sem, ↓reduceIte, Nat.reduceEqDiff, Nat.reduceLT, Nat.reduceLeDiff, Nat.reduceAdd, Nat.reduceMul, Nat.reduceSub, Nat.reduceDiv, Nat.reduceMod, Int.reduceToNat, Int.reduceLT, Int.reduceLE, Int.reduceAdd, Int.reduceSub, Int.reduceMul, Int.reduceEq, Int.reduceNeg, reduceCtorEq, or_false, false_or, decide_true, decide_false, Int.cast_ofNat_Int, Nat.zero_add, Nat.add_zero, Int.toNat_natCast, Option.isNone_none, Option.isNone_some, Bool.not_true, Bool.not_false, Bool.xor_true, Bool.xor_false, Bool.true_xor, Bool.false_xor, decide_true, decide_false, Bool.and_true, Bool.true_and, Bool.and_false, Bool.false_and, eq_self, ne_eq, not_false_eq_true, not_true_eq_false, true_and, and_true, and_self, d6, w1]
        exact ⟨(i + 1, T', fp'), ⟨by show i + 1 ≤ 20; omega, by show i + 1 ≤ m0; omega, by show i + 1 ≤ m1; omega, hop⟩, by show 20 - (i + 1) < 20 - i; omega, ent_drop ⟨rfl, rfl, rfl, rfl, rfl, rfl, trivial⟩ ⟨rfl, rfl, rfl, rfl, trivial⟩ (by simp)⟩
  · have hmany : manyN T 9 = 0 := manyN_none T hT 9
    have e : ∃ c0 c1 c2, decide ((i : Int) < m0) = c0 ∧ decide ((i : Int) < m1) = c1 ∧ decide ((i : Int) < 20) = c2 := ⟨_, _, _, rfl, rfl, rfl⟩
    obtain ⟨c0, c1, c2, d0, d1, d2⟩ := e
    have hc : (c0 && c1 && c2) = false := by
      rw [← d0, ← d1, ← d2]; simp; omega
    cases c0 <;> cases c1 <;> cases c2 <;> first | cases hc | skip
    all_goals
      simp only [go_sem, ↓reduceIte, Nat.reduceEqDiff, Nat.reduceLT, Nat.reduceLeDiff, Nat.reduceAdd, Nat.reduceMul, Nat.reduceSub, Nat.reduceDiv, Nat.reduceMod, Int.reduceToNat, Int.reduceLT, Int.reduceLE, Int.reduceAdd, Int.reduceSub, Int.reduceMul, Int.reduceEq, Int.reduceNeg, reduceCtorEq, or_false, false_or, decide_true, decide_false, Int.cast_ofNat_Int, Nat.zero_add, Nat.add_zero, Int.toNat_natCast, Option.isNone_none, Option.isNone_some, Bool.not_true, Bool.not_false, Bool.xor_true, Bool.xor_false, Bool.true_xor, Bool.false_xor, decide_true, decide_false, Bool.and_true, Bool.true_and, Bool.and_false, Bool.false_and, eq_self, ne_eq, not_false_eq_true, not_true_eq_false, true_and, and_true, and_self, d0, d1, d2, n0, n1]
      refine tab_call 2 (T := T) (T' := T) (v := .int .i64 0) [ptr g] (.c (.v (.int .i64 0))) Try.call38 (fun w h => by have := many_c g _ _ w h; rw [hmany] at this; exact this) rfl rfl (fun _ => rfl) (fun _ => rfl) rfl fun fp1 => ?_
      simp only [go_sem, ↓reduceIte, Nat.reduceEqDiff, Nat.reduceLT, Nat.reduceLeDiff, Nat.reduceAdd, Nat.reduceMul, Nat.reduceSub, Nat.reduceDiv, Nat.reduceMod, Int.reduceToNat, Int.reduceLT, Int.reduceLE, Int.reduceAdd, Int.reduceSub, Int.reduceMul, Int.reduceEq, Int.reduceNeg, reduceCtorEq, or_false, false_or, decide_true, decide_false, Int.cast_ofNat_Int, Nat.zero_add, Nat.add_zero, Int.toNat_natCast, Option.isNone_none, Option.isNone_some, Bool.not_true, Bool.not_false, Bool.xor_true, Bool.xor_false, Bool.true_xor, Bool.false_xor, decide_true, decide_false, Bool.and_true, Bool.true_and, Bool.and_false, Bool.false_and, eq_self, ne_eq, not_false_eq_true, not_true_eq_false, true_and, and_true, and_self]
      exact fun ρ a w hs _ => ⟨rfl, hs.grown⟩
end Go.Proofs.Ytfokingbglkmjaa
