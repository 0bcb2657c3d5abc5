/-
  There is just so much room; what does not fit leaves all as it was. Conditions: none.
-/
import Derived.Test.YtfokingbglkmjaaDiskC
namespace Go.Proofs.Ytfokingbglkmjaa
open Go.RowKit Go.Sx
set_option linter.unusedVariables false
set_option linter.unusedSimpArgs false

def fN (k : Nat) (ss : Nat → ByteArray) : Nat → Dk
  | 0 => c0 k
  | i + 1 => appD (fN k ss i) (ss i)
theorem fN_ok (k : Nat) (ss : Nat → ByteArray) : ∀ i, (fN k ss i).all.size ≤ k ∧ (fN k ss i).late.length ≤ i ∧ (fN k ss i).room = k ∧ (fN k ss i).fast.size = 0
  | 0 => ⟨Nat.zero_le _, Nat.zero_le _, rfl, rfl⟩
  | i + 1 => by
    obtain ⟨h1, h2, h3, h4⟩ := fN_ok k ss i
    simp only [fN]
    unfold appD
    split
    · exact ⟨h1, by omega, h3, h4⟩
    · rename_i h
      refine ⟨?_, by simp; omega, h3, h4⟩
      rw [late_all, ByteArray.size_append]
      rw [h3] at h; omega
def fSt (x0 : CV) (m0 : Nat) (r0 : Nat → List Value) (room k g : Nat) (d : Dk) (i : Nat) (fp : List Nat) : St :=
  ⟨[(10, .c (.v (.int .i64 i))), (9, .c (.v (.string d.all))), (7, .c (.v (gptr g))), (6, .c (.v (.int .i64 k))), (5, .c (.v (.bool true))), (1, .c x0)],
   [(1, .pred fp (On g (DSh d) fp)), (0, .imm 1 m0 fun i => (r0 i).map .v)], 2⟩

set_option maxHeartbeats 2000000 in
set_option maxRecDepth 100000 in
theorem dfull_c (w : World) {b0 o0 m0 : Nat} {r0 : Nat → List Value} {x0 : CV} {v0 : Value} (i0 : ImmAt w b0 o0 1 m0 r0) (l0 : LArg 0 m0 x0)
    (e0 : ∀ ρ : Env, ρ 0 = ⟨b0, o0, 1⟩ → x0.den ρ = v0) (f0 : ∀ i, i < m0 → ∃ s : ByteArray, r0 i = [.string s] ∧ s.size ≤ 140737488355328) (hm0 : m0 ≤ maxLen) (room : Nat) (hroom : room < 256) :
    Calls Try.prog 10 #[.int .u8 room, v0] w fun e w' => e = .returned (.bool true) ∧ Below w.heap.size w w' := by
  refine calls_imm [⟨b0, o0, 1, m0, r0⟩] (by simp; exact i0) 87 _ Try.func10 rfl Try.ntmps10 Try.results10 [.c (.v (.int .u8 room)), .c x0] (by simp) (fun ρ h => by simp [SV.denL, SV.den, CV.den, e0 ρ (h 0 (by simp))]) ?_
  have n0 := l0.len
  unfold maxLen at hm0
  obtain ⟨ss, hss⟩ : ∃ ss : Nat → ByteArray, ∀ i, i < m0 → (r0 i).map CV.v = [.v (.string (ss i))] ∧ (ss i).size ≤ 140737488355328 :=
    ⟨fun i => if h : i < m0 then (f0 i h).choose else .empty, fun i hi => by
      simp only [hi, dite_true]
      exact ⟨congrArg (List.map CV.v) (f0 i hi).choose_spec.1, (f0 i hi).choose_spec.2⟩⟩
  simp only [immL, List.length_cons, List.length_nil, Nat.zero_add, Nat.reduceAdd]
  have h1 : IntKind.i64.wrap (room : Int) = (room : Int) := wrap_i64 _ (by omega) (by omega)
  have h2 : IntKind.i64.wrap (1 + (room : Int)) = ((1 + room : Nat) : Int) := by rw [wrap_i64 _ (by omega) (by omega)]; omega
  have hk : 1 ≤ 1 + room ∧ 1 + room ≤ 256 := by omega
  generalize 1 + room = k at h2 hk
  simp only [go_sem, ↓reduceIte, Nat.reduceEqDiff, Nat.reduceLT, Nat.reduceLeDiff, Nat.reduceAdd, Nat.reduceMul, Nat.reduceSub, Nat.reduceDiv, Nat.reduceMod, Int.reduceToNat, Int.reduceLT, Int.reduceLE, Int.reduceAdd, Int.reduceSub, Int.reduceMul, Int.reduceEq, Int.reduceNeg, reduceCtorEq, or_false, false_or, decide_true, decide_false, Int.cast_ofNat_Int, Nat.zero_add, Nat.add_zero, Int.toNat_natCast, Option.isNone_none, Option.isNone_some, Bool.not_true, Bool.not_false, Bool.xor_true, Bool.xor_false, Bool.true_xor, Bool.false_xor, decide_true, decide_false, Bool.and_true, Bool.true_and, Bool.and_false, Bool.false_and, eq_self, ne_eq, not_false_eq_true, not_true_eq_false, true_and, and_true, and_self]
  refine scall_pure [] (.c (.v (.bool true))) (.bool true) Try.call46 ex11_c rfl (fun _ => rfl) (fun _ => rfl) ?_
  simp only [go_sem, ↓reduceIte, Nat.reduceEqDiff, Nat.reduceLT, Nat.reduceLeDiff, Nat.reduceAdd, Nat.reduceMul, Nat.reduceSub, Nat.reduceDiv, Nat.reduceMod, Int.reduceToNat, Int.reduceLT, Int.reduceLE, Int.reduceAdd, Int.reduceSub, Int.reduceMul, Int.reduceEq, Int.reduceNeg, reduceCtorEq, or_false, false_or, decide_true, decide_false, Int.cast_ofNat_Int, Nat.zero_add, Nat.add_zero, Int.toNat_natCast, Option.isNone_none, Option.isNone_some, Bool.not_true, Bool.not_false, Bool.xor_true, Bool.xor_false, Bool.true_xor, Bool.false_xor, decide_true, decide_false, Bool.and_true, Bool.true_and, Bool.and_false, Bool.false_and, eq_self, ne_eq, not_false_eq_true, not_true_eq_false, true_and, and_true, and_self, h1, h2]
  refine on_new (Sh := DSh (c0 k)) [.int .i64 k] (fun g => .tuple #[gptr g, .int .i64 0]) (fun g => .tup [.c (.v (gptr g)), .c (.v (.int .i64 0))]) Try.call47 (dnew_c k (by omega)) rfl (fun _ => rfl) (fun _ _ => rfl) rfl fun g fp0 => ?_
  simp only [go_sem, ↓reduceIte, Nat.reduceEqDiff, Nat.reduceLT, Nat.reduceLeDiff, Nat.reduceAdd, Nat.reduceMul, Nat.reduceSub, Nat.reduceDiv, Nat.reduceMod, Int.reduceToNat, Int.reduceLT, Int.reduceLE, Int.reduceAdd, Int.reduceSub, Int.reduceMul, Int.reduceEq, Int.reduceNeg, reduceCtorEq, or_false, false_or, decide_true, decide_false, Int.cast_ofNat_Int, Nat.zero_add, Nat.add_zero, Int.toNat_natCast, Option.isNone_none, Option.isNone_some, Bool.not_true, Bool.not_false, Bool.xor_true, Bool.xor_false, Bool.true_xor, Bool.false_xor, decide_true, decide_false, Bool.and_true, Bool.true_and, Bool.and_false, Bool.false_and, eq_self, ne_eq, not_false_eq_true, not_true_eq_false, true_and, and_true, and_self]
  refine sloop (fun p : Nat × List Nat => fSt x0 m0 r0 room k g (fN k ss p.1) p.1 p.2) (fun p => p.1 ≤ m0 ∧ p.1 ≤ 20) (fun p => 20 - p.1) (0, fp0) ⟨by simp, by simp⟩ (ent_drop ⟨rfl, rfl, rfl, rfl, rfl, rfl, trivial⟩ ⟨rfl, rfl, trivial⟩ (by simp)) (fun p hp => ?_)
  obtain ⟨i, fp⟩ := p
  obtain ⟨hi, hi20⟩ : i ≤ m0 ∧ i ≤ 20 := hp
  obtain ⟨z1, z2, z3, z4⟩ := fN_ok k ss i
  obtain ⟨d, hd⟩ : ∃ d, fN k ss i = d := ⟨_, rfl⟩
  have hnx : fN k ss (i + 1) = appD d (ss i) := by rw [← hd]; rfl
  obtain ⟨y1, y2, y3, y4⟩ := fN_ok k ss (i + 1)
  rw [hnx] at y1 y2 y3 y4
  have hdS : d.small := by rw [← hd]; exact ⟨by omega, by omega⟩
  show X _ _ _ _ (fSt x0 m0 r0 room k g (fN k ss i) i fp)
  rw [hd] at z1 z2 z3 z4 ⊢
  by_cases h : i < m0 ∧ i < 20
  · obtain ⟨ha, hb⟩ := h
    have d0 : decide ((i : Int) < m0) = true := by simp; omega
    have d1 : decide ((i : Int) < 20) = true := by simp; omega
    have d3 : (0 : Int) ≤ i ∧ (i : Int) < m0 := by omega
    have w1 : IntKind.i64.wrap ((i : Int) + 1) = ((i + 1 : Nat) : Int) := wrap_i64 _ (by omega) (by omega)
    obtain ⟨cp, rfl⟩ := l0.pos (by omega)
    obtain ⟨hrow, hsz⟩ := hss i ha
    obtain ⟨u, hu⟩ : ∃ u, ss i = u := ⟨_, rfl⟩
    rw [hu] at hrow hsz hnx y1 y2 y3 y4
    have hd2 : (appD d u).small := ⟨by omega, by omega⟩
    have w2 : IntKind.i64.wrap ((d.all.size : Int) + u.size) = (d.all.size : Int) + u.size := wrap_i64 _ (by omega) (by omega)
    have hw9 : d.all.size + u.size ≤ 9223372036854775807 := by omega
    by_cases hfit : d.all.size + u.size ≤ k
    · have d4 : decide ((d.all.size : Int) + u.size ≤ k) = true := by simp; omega
      have hE : appE d u = 0 := by unfold appE; rw [if_neg]; rw [z3]; omega
      have hA : (appD d u).all = d.all ++ u := by unfold appD; rw [if_neg (by rw [z3]; omega)]; exact late_all d u
      simp only [fSt]
      simp only [go_sem, ↓reduceIte, Nat.reduceEqDiff, Nat.reduceLT, Nat.reduceLeDiff, Nat.reduceAdd, Nat.reduceMul, Nat.reduceSub, Nat.reduceDiv, Nat.reduceMod, Int.reduceToNat, Int.reduceLT, Int.reduceLE, Int.reduceAdd, Int.reduceSub, Int.reduceMul, Int.reduceEq, Int.reduceNeg, reduceCtorEq, or_false, false_or, decide_true, decide_false, Int.cast_ofNat_Int, Nat.zero_add, Nat.add_zero, Int.toNat_natCast, Option.isNone_none, Option.isNone_some, Bool.not_true, Bool.not_false, Bool.xor_true, Bool.xor_false, Bool.true_xor, Bool.false_xor, decide_true, decide_false, Bool.and_true, Bool.true_and, Bool.and_false, Bool.false_and, eq_self, ne_eq, not_false_eq_true, not_true_eq_false, true_and, and_true, and_self, d0, d1, d3, hrow, ha, n0]
      refine on_call 1 (Sh := DSh d) (Sh' := DSh (appD d u)) (v := .int .i64 0) [gptr g, .string u] (.c (.v (.int .i64 0))) Try.call48 (fun w h => by have := dappend_c g d u hdS (by omega) _ w h; rw [hE] at this; exact this) rfl rfl (fun _ => rfl) (fun _ => rfl) rfl fun fp1 => ?_
      simp only [go_sem, ↓reduceIte, Nat.reduceEqDiff, Nat.reduceLT, Nat.reduceLeDiff, Nat.reduceAdd, Nat.reduceMul, Nat.reduceSub, Nat.reduceDiv, Nat.reduceMod, Int.reduceToNat, Int.reduceLT, Int.reduceLE, Int.reduceAdd, Int.reduceSub, Int.reduceMul, Int.reduceEq, Int.reduceNeg, reduceCtorEq, or_false, false_or, decide_true, decide_false, Int.cast_ofNat_Int, Nat.zero_add, Nat.add_zero, Int.toNat_natCast, Option.isNone_none, Option.isNone_some, Bool.not_true, Bool.not_false, Bool.xor_true, Bool.xor_false, Bool.true_xor, Bool.false_xor, decide_true, decide_false, Bool.and_true, Bool.true_and, Bool.and_false, Bool.false_and, eq_self, ne_eq, not_false_eq_true, not_true_eq_false, true_and, and_true, and_self, d3, hrow, ha, n0, w2, d4, hw9]
      refine on_callk 1 (Sh := DSh (appD d u)) (v := .string (d.all ++ u)) [gptr g] (.c (.v (.string (d.all ++ u)))) Try.call50 (fun w h => by have := dbytes_c g _ hd2 _ w h; rw [hA] at this; exact this) rfl rfl (fun _ => rfl) (fun _ => rfl) rfl ?_
      simp only [go_sem, ↓reduceIte, Nat.reduceEqDiff, Nat.reduceLT, Nat.reduceLeDiff, Nat.reduceAdd, Nat.reduceMul, Nat.reduceSub, Nat.reduceDiv, Nat.reduceMod, Int.reduceToNat, Int.reduceLT, Int.reduceLE, Int.reduceAdd, Int.reduceSub, Int.reduceMul, Int.reduceEq, Int.reduceNeg, reduceCtorEq, or_false, false_or, decide_true, decide_false, Int.cast_ofNat_Int, Nat.zero_add, Nat.add_zero, Int.toNat_natCast, Option.isNone_none, Option.isNone_some, Bool.not_true, Bool.not_false, Bool.xor_true, Bool.xor_false, Bool.true_xor, Bool.false_xor, decide_true, decide_false, Bool.and_true, Bool.true_and, Bool.and_false, Bool.false_and, eq_self, ne_eq, not_false_eq_true, not_true_eq_false, true_and, and_true, and_self, w1]
      refine ⟨(i + 1, fp1), ⟨by show i + 1 ≤ m0; omega, by show i + 1 ≤ 20; omega⟩, by show 20 - (i + 1) < 20 - i; omega, ?_⟩
      show Ent _ _ (fSt _ m0 r0 room k g (fN k ss (i + 1)) (i + 1) fp1)
      rw [hnx]
      unfold fSt
      rw [hA]
      exact ent_drop ⟨rfl, rfl, rfl, rfl, rfl, rfl, trivial⟩ ⟨rfl, rfl, trivial⟩ (by simp)
    · have d4 : decide ((d.all.size : Int) + u.size ≤ k) = false := by simp; omega
      have hE : appE d u = 4 := by unfold appE; rw [if_pos]; rw [z3]; omega
      have hA : appD d u = d := by unfold appD; rw [if_pos (by rw [z3]; omega)]
      rw [hA] at hnx
      simp only [fSt]
      simp only [go_sem, ↓reduceIte, Nat.reduceEqDiff, Nat.reduceLT, Nat.reduceLeDiff, Nat.reduceAdd, Nat.reduceMul, Nat.reduceSub, Nat.reduceDiv, Nat.reduceMod, Int.reduceToNat, Int.reduceLT, Int.reduceLE, Int.reduceAdd, Int.reduceSub, Int.reduceMul, Int.reduceEq, Int.reduceNeg, reduceCtorEq, or_false, false_or, decide_true, decide_false, Int.cast_ofNat_Int, Nat.zero_add, Nat.add_zero, Int.toNat_natCast, Option.isNone_none, Option.isNone_some, Bool.not_true, Bool.not_false, Bool.xor_true, Bool.xor_false, Bool.true_xor, Bool.false_xor, decide_true, decide_false, Bool.and_true, Bool.true_and, Bool.and_false, Bool.false_and, eq_self, ne_eq, not_false_eq_true, not_true_eq_false, true_and, and_true, and_self, d0, d1, d3, hrow, ha, n0]
      refine on_call 1 (Sh := DSh d) (Sh' := DSh d) (v := .int .i64 4) [gptr g, .string u] (.c (.v (.int .i64 4))) Try.call48 (fun w h => by have := dappend_c g d u hdS (by omega) _ w h; rw [hE, hA] at this; exact this) rfl rfl (fun _ => rfl) (fun _ => rfl) rfl fun fp1 => ?_
      simp only [go_sem, ↓reduceIte, Nat.reduceEqDiff, Nat.reduceLT, Nat.reduceLeDiff, Nat.reduceAdd, Nat.reduceMul, Nat.reduceSub, Nat.reduceDiv, Nat.reduceMod, Int.reduceToNat, Int.reduceLT, Int.reduceLE, Int.reduceAdd, Int.reduceSub, Int.reduceMul, Int.reduceEq, Int.reduceNeg, reduceCtorEq, or_false, false_or, decide_true, decide_false, Int.cast_ofNat_Int, Nat.zero_add, Nat.add_zero, Int.toNat_natCast, Option.isNone_none, Option.isNone_some, Bool.not_true, Bool.not_false, Bool.xor_true, Bool.xor_false, Bool.true_xor, Bool.false_xor, decide_true, decide_false, Bool.and_true, Bool.true_and, Bool.and_false, Bool.false_and, eq_self, ne_eq, not_false_eq_true, not_true_eq_false, true_and, and_true, and_self, d3, hrow, ha, n0, w2, d4, hw9]
      refine on_callk 1 (Sh := DSh d) (v := .string d.all) [gptr g] (.c (.v (.string d.all))) Try.call50 (fun w h => dbytes_c g _ hdS _ w h) rfl rfl (fun _ => rfl) (fun _ => rfl) rfl ?_
      simp only [go_sem, ↓reduceIte, Nat.reduceEqDiff, Nat.reduceLT, Nat.reduceLeDiff, Nat.reduceAdd, Nat.reduceMul, Nat.reduceSub, Nat.reduceDiv, Nat.reduceMod, Int.reduceToNat, Int.reduceLT, Int.reduceLE, Int.reduceAdd, Int.reduceSub, Int.reduceMul, Int.reduceEq, Int.reduceNeg, reduceCtorEq, or_false, false_or, decide_true, decide_false, Int.cast_ofNat_Int, Nat.zero_add, Nat.add_zero, Int.toNat_natCast, Option.isNone_none, Option.isNone_some, Bool.not_true, Bool.not_false, Bool.xor_true, Bool.xor_false, Bool.true_xor, Bool.false_xor, decide_true, decide_false, Bool.and_true, Bool.true_and, Bool.and_false, Bool.false_and, eq_self, ne_eq, not_false_eq_true, not_true_eq_false, true_and, and_true, and_self, w1]
      refine ⟨(i + 1, fp1), ⟨by show i + 1 ≤ m0; omega, by show i + 1 ≤ 20; omega⟩, by show 20 - (i + 1) < 20 - i; omega, ?_⟩
      show Ent _ _ (fSt _ m0 r0 room k g (fN k ss (i + 1)) (i + 1) fp1)
      rw [hnx]
      exact ent_drop ⟨rfl, rfl, rfl, rfl, rfl, rfl, trivial⟩ ⟨rfl, rfl, trivial⟩ (by simp)
  · obtain ⟨b1, b2, d0, d1⟩ : ∃ b1 b2, decide ((i : Int) < m0) = b1 ∧ decide ((i : Int) < 20) = b2 := ⟨_, _, rfl, rfl⟩
    have hb12 : (b1 && b2) = false := by rw [← d0, ← d1]; simp; omega
    have z5 : (d.fast.size : Int) = 0 := by omega
    simp only [fSt]
    cases b1 <;> cases b2 <;> first | cases hb12 | skip
    all_goals
      simp only [go_sem, ↓reduceIte, Nat.reduceEqDiff, Nat.reduceLT, Nat.reduceLeDiff, Nat.reduceAdd, Nat.reduceMul, Nat.reduceSub, Nat.reduceDiv, Nat.reduceMod, Int.reduceToNat, Int.reduceLT, Int.reduceLE, Int.reduceAdd, Int.reduceSub, Int.reduceMul, Int.reduceEq, Int.reduceNeg, reduceCtorEq, or_false, false_or, decide_true, decide_false, Int.cast_ofNat_Int, Nat.zero_add, Nat.add_zero, Int.toNat_natCast, Option.isNone_none, Option.isNone_some, Bool.not_true, Bool.not_false, Bool.xor_true, Bool.xor_false, Bool.true_xor, Bool.false_xor, decide_true, decide_false, Bool.and_true, Bool.true_and, Bool.and_false, Bool.false_and, eq_self, ne_eq, not_false_eq_true, not_true_eq_false, true_and, and_true, and_self, d0, d1, n0]
      refine on_callk 1 (Sh := DSh d) (v := .int .i64 0) [gptr g] (.c (.v (.int .i64 0))) Try.call51 (fun w h => by have := dsynced_c g d _ w h; rw [z5] at this; exact this) rfl rfl (fun _ => rfl) (fun _ => rfl) rfl ?_
      simp only [go_sem, ↓reduceIte, Nat.reduceEqDiff, Nat.reduceLT, Nat.reduceLeDiff, Nat.reduceAdd, Nat.reduceMul, Nat.reduceSub, Nat.reduceDiv, Nat.reduceMod, Int.reduceToNat, Int.reduceLT, Int.reduceLE, Int.reduceAdd, Int.reduceSub, Int.reduceMul, Int.reduceEq, Int.reduceNeg, reduceCtorEq, or_false, false_or, decide_true, decide_false, Int.cast_ofNat_Int, Nat.zero_add, Nat.add_zero, Int.toNat_natCast, Option.isNone_none, Option.isNone_some, Bool.not_true, Bool.not_false, Bool.xor_true, Bool.xor_false, Bool.true_xor, Bool.false_xor, decide_true, decide_false, Bool.and_true, Bool.true_and, Bool.and_false, Bool.false_and, eq_self, ne_eq, not_false_eq_true, not_true_eq_false, true_and, and_true, and_self]
      exact fun ρ a w hs _ => ⟨rfl, hs.grown⟩
end Go.Proofs.Ytfokingbglkmjaa
