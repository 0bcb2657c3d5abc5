/-
  The horizon is at most what is stable, and at most each snapshot that is open; with none open it is what is stable. Conditions: none.
-/
import Derived.Test.YtfokingbglkmjaaSessB
namespace Go.Proofs.Ytfokingbglkmjaa
open Go.RowKit Go.Sx
set_option linter.unusedVariables false
set_option linter.unusedSimpArgs false

def V4.Le (x y : V4) : Prop := x.a ≤ y.a ∧ x.b ≤ y.b ∧ x.c ≤ y.c ∧ x.d ≤ y.d
theorem leq_iff {x y : V4} : x.leq y = true ↔ x.Le y := by simp [V4.leq, V4.Le]
theorem V4.Le.refl (x : V4) : x.Le x := ⟨Int.le_refl _, Int.le_refl _, Int.le_refl _, Int.le_refl _⟩
theorem V4.Le.trans {x y z : V4} (h : x.Le y) (k : y.Le z) : x.Le z := by unfold V4.Le at *; omega
theorem meet_left (x y : V4) : (x.meet y).Le x := by simp only [V4.Le, V4.meet]; omega
theorem meet_right (x y : V4) : (x.meet y).Le y := by simp only [V4.Le, V4.meet]; omega
theorem le_meet {x y z : V4} (h : z.Le x) (k : z.Le y) : z.Le (x.meet y) := by simp only [V4.Le, V4.meet] at *; omega
theorem hor_le_s (T : Nat → One) (s : V4) : ∀ n, (horV T s n).Le s
  | 0 => V4.Le.refl s
  | n + 1 => by
    simp only [horV]; split
    · exact (meet_left _ _).trans (hor_le_s T s n)
    · exact hor_le_s T s n
theorem hor_le (T : Nat → One) (s : V4) {m : Nat} (hm : isT T m = true) : ∀ n : Nat, m < n → (horV T s n).Le (T m).sn
  | 0, h => by omega
  | n + 1, h => by
    simp only [horV]
    by_cases hmn : m = n
    · subst hmn; rw [if_pos hm]; exact meet_right _ _
    · split
      · exact (meet_left _ _).trans (hor_le T s hm n (by omega))
      · exact hor_le T s hm n (by omega)
theorem le_hor (T : Nat → One) (s x : V4) (h : x.Le s) : ∀ n : Nat, (∀ m : Nat, m < n → isT T m = true → x.Le (T m).sn) → x.Le (horV T s n)
  | 0, _ => h
  | n + 1, hm => by
    simp only [horV]; split
    · rename_i hn; exact le_meet (le_hor T s x h n fun m h1 h2 => hm m (by omega) h2) (hm n (by omega) hn)
    · exact le_hor T s x h n fun m h1 h2 => hm m (by omega) h2
theorem hor_none (T : Nat → One) (s : V4) : ∀ n : Nat, (∀ m : Nat, m < n → isT T m = false) → horV T s n = s
  | 0, _ => rfl
  | n + 1, h => by simp only [horV]; rw [if_neg (by rw [h n (by omega)]; simp)]; exact hor_none T s n fun m hm => h m (by omega)
theorem endT_sub (T : Nat → One) (id : Int) (m : Nat) (h : isT (endT T id) m = true) : isT T m = true ∧ (endT T id m).sn = (T m).sn := by
  unfold isT at *
  simp only [Bool.and_eq_true, Int.toNat_natCast] at h ⊢
  unfold endT at *
  split at h
  · rename_i hc
    rw [if_pos hc]
    by_cases hm : m = id.toNat
    · rw [hm, upd_same] at h; cases h.2
    · rw [upd_ne _ _ hm] at h ⊢; exact ⟨h, rfl⟩
  · rename_i hc
    rw [if_neg hc]; exact ⟨h, rfl⟩
theorem hor_end (T : Nat → One) (s : V4) (id : Int) (n : Nat) : (horV T s n).Le (horV (endT T id) s n) :=
  le_hor _ _ _ (hor_le_s T s n) n fun m hm h => by
    obtain ⟨h1, h2⟩ := endT_sub T id m h
    rw [h2]; exact hor_le T s h1 n hm
def b2n (b : Bool) : Nat := if b then 1 else 0
theorem manyN_upd (T : Nat → One) (k : Nat) (o : One) : ∀ n, manyN (upd T k o) n + b2n (decide (k < n) && (T k).is) = manyN T n + b2n (decide (k < n) && o.is)
  | 0 => by simp [manyN]
  | n + 1 => by
    have ih := manyN_upd T k o n
    rw [manyN_s, manyN_s]
    rcases Nat.lt_trichotomy k n with h | h | h
    · rw [upd_ne _ _ (show n ≠ k by omega)]
      rw [show decide (k < n + 1) = true by simp; omega]
      rw [show decide (k < n) = true by simp; omega] at ih
      omega
    · subst h
      rw [upd_same]
      rw [show decide (k < k + 1) = true by simp]
      rw [show decide (k < k) = false by simp] at ih
      simp only [b2n, Bool.true_and, Bool.false_and, Bool.false_eq_true, if_false] at ih ⊢
      omega
    · rw [upd_ne _ _ (show n ≠ k by omega)]
      rw [show decide (k < n + 1) = false by simp; omega]
      rw [show decide (k < n) = false by simp; omega] at ih
      omega
theorem manyN_end (T : Nat → One) (k : Nat) (hk : 1 ≤ k ∧ k ≤ 8) : (manyN (endT T k) 9 : Int) = if endE T k = 0 then (manyN T 9 : Int) - 1 else manyN T 9 := by
  have hin : inS k = true := by rw [inS_n]; simp; omega
  unfold endT endE
  rw [hin, Int.toNat_natCast]
  cases h : (T k).is
  · simp
  · have := manyN_upd T k ⟨(T k).seen, none⟩ 9
    rw [h, show decide (k < 9) = true by simp; omega] at this
    simp [b2n, One.is] at this ⊢
    omega
theorem manyN_beg (T : Nat → One) (k : Nat) (v : V4) (hk : 1 ≤ k ∧ k ≤ 8) (hop : (T k).op = none) : (manyN (beginT T k v) 9 : Int) = if beginE T k v = 0 then (manyN T 9 : Int) + 1 else manyN T 9 := by
  have hin : inS k = true := by rw [inS_n]; simp; omega
  unfold beginT beginE
  rw [hin, Int.toNat_natCast, hop]
  cases h : v.right
  · simp
  · have := manyN_upd T k ⟨(T k).seen, some (v, [])⟩ 9
    rw [show decide (k < 9) = true by simp; omega] at this
    simp [b2n, One.is, hop] at this ⊢
    omega
theorem begin_off (T : Nat → One) (id : Int) (v : V4) (m : Nat) (hm : m ≠ id.toNat) : beginT T id v m = T m := by
  unfold beginT; split
  · exact upd_ne _ _ hm
  · rfl
theorem manyN_no (T : Nat → One) : ∀ n, manyN T n = 0 → ∀ m, m < n → (T m).is = false
  | 0, _, m, h => by omega
  | n + 1, h, m, hm => by
    rw [manyN_s] at h
    by_cases e : m = n
    · subst e; cases hi : (T m).is
      · rfl
      · rw [hi] at h; simp at h
    · exact manyN_no T n (by omega) m (by omega)

theorem sessHorizon_c (w : World) {b0 o0 m0 : Nat} {r0 : Nat → List Value} {x0 : CV} {v0 : Value} (i0 : ImmAt w b0 o0 5 m0 r0) (l0 : LArg 0 m0 x0)
    (e0 : ∀ ρ : Env, ρ 0 = ⟨b0, o0, 5⟩ → x0.den ρ = v0) (f0 : ∀ i, i < m0 → FOk [.i .u64, .i .u64, .i .u64, .i .u64, .b] (r0 i)) (sv : V4) (sown : Bool) (en : Nat) (hen : en < 256) :
    Calls Try.prog 5 #[v0, .agg #[vu sv.a, vu sv.b, vu sv.c, vu sv.d, .bool sown], .int .u8 en] w fun e w' => e = .returned (.bool true) ∧ Below w.heap.size w w' := by
  refine calls_imm [⟨b0, o0, 5, m0, r0⟩] (by simp; exact i0) 122 _ Try.func5 rfl Try.ntmps5 Try.results5 [.c x0, .agg [cu sv.a, cu sv.b, cu sv.c, cu sv.d, .v (.bool sown)], .c (.v (.int .u8 en))] (by simp) (fun ρ h => by simp [SV.denL, SV.den, CV.denL, CV.den, e0 ρ (h 0 (by simp))]) ?_
  have n0 := l0.len
  simp only [immL, List.length_cons, List.length_nil, Nat.zero_add, Nat.reduceAdd]
  simp only [go_sem, ↓reduceIte, Nat.reduceEqDiff, Nat.reduceLT, Nat.reduceLeDiff, Nat.reduceAdd, Nat.reduceMul, Nat.reduceSub, Nat.reduceDiv, Nat.reduceMod, Int.reduceToNat, Int.reduceLT, Int.reduceLE, Int.reduceAdd, Int.reduceSub, Int.reduceMul, Int.reduceEq, Int.reduceNeg, reduceCtorEq, or_false, false_or, decide_true, decide_false, Int.cast_ofNat_Int, Nat.zero_add, Nat.add_zero, Int.toNat_natCast, Option.isNone_none, Option.isNone_some, Bool.not_true, Bool.not_false, Bool.xor_true, Bool.xor_false, Bool.true_xor, Bool.false_xor, decide_true, decide_false, Bool.and_true, Bool.true_and, Bool.and_false, Bool.false_and, eq_self, ne_eq, not_false_eq_true, not_true_eq_false, true_and, and_true, and_self]
  refine scall_pure [] (.c (.v (.bool true))) (.bool true) Try.call15 ex_c rfl (fun _ => rfl) (fun _ => rfl) ?_
  simp only [go_sem, ↓reduceIte, Nat.reduceEqDiff, Nat.reduceLT, Nat.reduceLeDiff, Nat.reduceAdd, Nat.reduceMul, Nat.reduceSub, Nat.reduceDiv, Nat.reduceMod, Int.reduceToNat, Int.reduceLT, Int.reduceLE, Int.reduceAdd, Int.reduceSub, Int.reduceMul, Int.reduceEq, Int.reduceNeg, reduceCtorEq, or_false, false_or, decide_true, decide_false, Int.cast_ofNat_Int, Nat.zero_add, Nat.add_zero, Int.toNat_natCast, Option.isNone_none, Option.isNone_some, Bool.not_true, Bool.not_false, Bool.xor_true, Bool.xor_false, Bool.true_xor, Bool.false_xor, decide_true, decide_false, Bool.and_true, Bool.true_and, Bool.and_false, Bool.false_and, eq_self, ne_eq, not_false_eq_true, not_true_eq_false, true_and, and_true, and_self]
  refine tab_new [] Try.call16 new_c rfl (fun _ => rfl) rfl fun g fp0 => ?_
  simp only [go_sem, ↓reduceIte, Nat.reduceEqDiff, Nat.reduceLT, Nat.reduceLeDiff, Nat.reduceAdd, Nat.reduceMul, Nat.reduceSub, Nat.reduceDiv, Nat.reduceMod, Int.reduceToNat, Int.reduceLT, Int.reduceLE, Int.reduceAdd, Int.reduceSub, Int.reduceMul, Int.reduceEq, Int.reduceNeg, reduceCtorEq, or_false, false_or, decide_true, decide_false, Int.cast_ofNat_Int, Nat.zero_add, Nat.add_zero, Int.toNat_natCast, Option.isNone_none, Option.isNone_some, Bool.not_true, Bool.not_false, Bool.xor_true, Bool.xor_false, Bool.true_xor, Bool.false_xor, decide_true, decide_false, Bool.and_true, Bool.true_and, Bool.and_false, Bool.false_and, eq_self, ne_eq, not_false_eq_true, not_true_eq_false, true_and, and_true, and_self]
  obtain ⟨s, hs0⟩ : ∃ s, s = few sv sown := ⟨_, rfl⟩
  refine scall_pure [.agg #[vu sv.a, vu sv.b, vu sv.c, vu sv.d, .bool sown]] (sv4 s.a s.b s.c s.d) s.v Try.call17 (fun w => by rw [hs0]; exact vector_c sv sown w) rfl (fun _ => rfl) (fun _ => rfl) ?_
  clear hs0
  simp only [go_sem, ↓reduceIte, Nat.reduceEqDiff, Nat.reduceLT, Nat.reduceLeDiff, Nat.reduceAdd, Nat.reduceMul, Nat.reduceSub, Nat.reduceDiv, Nat.reduceMod, Int.reduceToNat, Int.reduceLT, Int.reduceLE, Int.reduceAdd, Int.reduceSub, Int.reduceMul, Int.reduceEq, Int.reduceNeg, reduceCtorEq, or_false, false_or, decide_true, decide_false, Int.cast_ofNat_Int, Nat.zero_add, Nat.add_zero, Int.toNat_natCast, Option.isNone_none, Option.isNone_some, Bool.not_true, Bool.not_false, Bool.xor_true, Bool.xor_false, Bool.true_xor, Bool.false_xor, decide_true, decide_false, Bool.and_true, Bool.true_and, Bool.and_false, Bool.false_and, eq_self, ne_eq, not_false_eq_true, not_true_eq_false, true_and, and_true, and_self]
  refine sloop (fun p : Nat × (Nat → One) × Nat × List Nat => ⟨[(11, .c (.v (.int .i64 (p.1 : Nat)))), (10, .c (.v (.int .i64 (p.2.2.1 : Nat)))), (9, .c (.p 3 0 0)), (8, .c (.v (ptr g))), (7, .c (.v (.bool true))), (0, .c x0), (2, .c (.v (.int .u8 en)))], [(3, .cells 25 [cu s.a, cu s.b, cu s.c, cu s.d]), (2, .pred p.2.2.2 (TabIs g p.2.1 p.2.2.2)), (0, .imm 5 m0 fun i => (r0 i).map .v)], 4⟩)
    (fun p => p.1 ≤ 8 ∧ p.1 ≤ m0 ∧ (∀ k, p.1 < k → (p.2.1 k).op = none) ∧ manyN p.2.1 9 = p.2.2.1 ∧ p.2.2.1 ≤ p.1) (fun p => 8 - p.1) (0, (fun _ => none1), 0, fp0) ⟨by simp, by simp, fun _ _ => rfl, by show manyN (fun _ => none1) 9 = 0; decide, by simp⟩ (ent_drop ⟨rfl, rfl, rfl, rfl, rfl, rfl, rfl, trivial⟩ ⟨rfl, rfl, rfl, trivial⟩ (by simp)) (fun p hp => ?_)
  obtain ⟨i, T, n, fp⟩ := p
  obtain ⟨hi, hm0, hT, hn, hni⟩ : i ≤ 8 ∧ i ≤ m0 ∧ (∀ k, i < k → (T k).op = none) ∧ manyN T 9 = n ∧ n ≤ i := hp
  by_cases h : i < m0 ∧ i < 8
  · obtain ⟨h0, h2⟩ := h
    have d0 : decide ((i : Int) < m0) = true := by simp; omega
    have d2 : decide ((i : Int) < 8) = true := by simp; omega
    have d3 : (0 : Int) ≤ i ∧ (i : Int) < m0 := by omega
    have w1 : IntKind.i64.wrap ((i : Int) + 1) = ((i + 1 : Nat) : Int) := wrap_i64 _ (by omega) (by omega)
    have w2 : IntKind.i64.wrap ((n : Int) + 1) = ((n + 1 : Nat) : Int) := wrap_i64 _ (by omega) (by omega)
    obtain ⟨c0, rfl⟩ := l0.pos (by omega)
    obtain ⟨v, own, hrow0⟩ := row_vec (f0 i h0)
    have hB := manyN_beg T (i + 1) (few v own) (by omega) (hT _ (by omega))
    simp only [go_sem, ↓reduceIte, Nat.reduceEqDiff, Nat.reduceLT, Nat.reduceLeDiff, Nat.reduceAdd, Nat.reduceMul, Nat.reduceSub, Nat.reduceDiv, Nat.reduceMod, Int.reduceToNat, Int.reduceLT, Int.reduceLE, Int.reduceAdd, Int.reduceSub, Int.reduceMul, Int.reduceEq, Int.reduceNeg, reduceCtorEq, or_false, false_or, decide_true, decide_false, Int.cast_ofNat_Int, Nat.zero_add, Nat.add_zero, Int.toNat_natCast, Option.isNone_none, Option.isNone_some, Bool.not_true, Bool.not_false, Bool.xor_true, Bool.xor_false, Bool.true_xor, Bool.false_xor, decide_true, decide_false, Bool.and_true, Bool.true_and, Bool.and_false, Bool.false_and, eq_self, ne_eq, not_false_eq_true, not_true_eq_false, true_and, and_true, and_self, d0, d2, d3, hrow0, h0, w1]
    obtain ⟨u, hu0⟩ : ∃ u, u = few v own := ⟨_, rfl⟩
    rw [← hu0] at hB
    refine scall_pure [.agg #[vu v.a, vu v.b, vu v.c, vu v.d, .bool own]] (sv4 u.a u.b u.c u.d) u.v Try.call17 (fun w => by rw [hu0]; exact vector_c v own w) rfl (fun _ => rfl) (fun _ => rfl) ?_
    clear hu0
    simp only [go_sem, ↓reduceIte, Nat.reduceEqDiff, Nat.reduceLT, Nat.reduceLeDiff, Nat.reduceAdd, Nat.reduceMul, Nat.reduceSub, Nat.reduceDiv, Nat.reduceMod, Int.reduceToNat, Int.reduceLT, Int.reduceLE, Int.reduceAdd, Int.reduceSub, Int.reduceMul, Int.reduceEq, Int.reduceNeg, reduceCtorEq, or_false, false_or, decide_true, decide_false, Int.cast_ofNat_Int, Nat.zero_add, Nat.add_zero, Int.toNat_natCast, Option.isNone_none, Option.isNone_some, Bool.not_true, Bool.not_false, Bool.xor_true, Bool.xor_false, Bool.true_xor, Bool.false_xor, decide_true, decide_false, Bool.and_true, Bool.true_and, Bool.and_false, Bool.false_and, eq_self, ne_eq, not_false_eq_true, not_true_eq_false, true_and, and_true, and_self]
    refine tab_call 2 (T := T) (T' := beginT T (i + 1 : Nat) u) (v := .int .i64 (beginE T (i + 1 : Nat) u)) [ptr g, .int .i64 (i + 1 : Nat), u.v] (.c (.v (.int .i64 (beginE T (i + 1 : Nat) u)))) Try.call19 (fun w h => begin_c g _ _ _ u w h) rfl rfl (fun _ => rfl) (fun _ => rfl) rfl fun fp1 => ?_
    have hoff : ∀ k, i + 1 < k → (beginT T (i + 1 : Nat) u k).op = none := fun k hk => by rw [begin_off _ _ _ _ (by simp; omega)]; exact hT k (by omega)
    cases hE : decide (beginE T (i + 1 : Nat) u = 0)
    · rw [if_neg (by simpa using hE), hn] at hB
      have hmany : manyN (beginT T (i + 1 : Nat) u) 9 = n := by omega
      simp only [go_sem, ↓reduceIte, Nat.reduceEqDiff, Nat.reduceLT, Nat.reduceLeDiff, Nat.reduceAdd, Nat.reduceMul, Nat.reduceSub, Nat.reduceDiv, Nat.reduceMod, Int.reduceToNat, Int.reduceLT, Int.reduceLE, Int.reduceAdd, Int.reduceSub, Int.reduceMul, Int.reduceEq, Int.reduceNeg, reduceCtorEq, or_false, false_or, decide_true, decide_false, Int.cast_ofNat_Int, Nat.zero_add, Nat.add_zero, Int.toNat_natCast, Option.isNone_none, Option.isNone_some, Bool.not_true, Bool.not_false, Bool.xor_true, Bool.xor_false, Bool.true_xor, Bool.false_xor, decide_true, decide_false, Bool.and_true, Bool.true_and, Bool.and_false, Bool.false_and, eq_self, ne_eq, not_false_eq_true, not_true_eq_false, true_and, and_true, and_self, hE, w1]
      exact ⟨(i + 1, beginT T (i + 1 : Nat) u, n, fp1), ⟨by show i + 1 ≤ 8; omega, by show i + 1 ≤ m0; omega, hoff, hmany, by show n ≤ i + 1; omega⟩, by show 8 - (i + 1) < 8 - i; omega, ent_drop ⟨rfl, rfl, rfl, rfl, rfl, rfl, rfl, trivial⟩ ⟨rfl, rfl, rfl, trivial⟩ (by simp)⟩
    · rw [if_pos (by simpa using hE), hn] at hB
      have hmany : manyN (beginT T (i + 1 : Nat) u) 9 = n + 1 := by omega
      simp only [go_sem, ↓reduceIte, Nat.reduceEqDiff, Nat.reduceLT, Nat.reduceLeDiff, Nat.reduceAdd, Nat.reduceMul, Nat.reduceSub, Nat.reduceDiv, Nat.reduceMod, Int.reduceToNat, Int.reduceLT, Int.reduceLE, Int.reduceAdd, Int.reduceSub, Int.reduceMul, Int.reduceEq, Int.reduceNeg, reduceCtorEq, or_false, false_or, decide_true, decide_false, Int.cast_ofNat_Int, Nat.zero_add, Nat.add_zero, Int.toNat_natCast, Option.isNone_none, Option.isNone_some, Bool.not_true, Bool.not_false, Bool.xor_true, Bool.xor_false, Bool.true_xor, Bool.false_xor, decide_true, decide_false, Bool.and_true, Bool.true_and, Bool.and_false, Bool.false_and, eq_self, ne_eq, not_false_eq_true, not_true_eq_false, true_and, and_true, and_self, hE, w1, w2]
      exact ⟨(i + 1, beginT T (i + 1 : Nat) u, n + 1, fp1), ⟨by show i + 1 ≤ 8; omega, by show i + 1 ≤ m0; omega, hoff, hmany, by show n + 1 ≤ i + 1; omega⟩, by show 8 - (i + 1) < 8 - i; omega, ent_drop ⟨rfl, rfl, rfl, rfl, rfl, rfl, rfl, trivial⟩ ⟨rfl, rfl, rfl, trivial⟩ (by simp)⟩
  · obtain ⟨c0, c2, d0, d2⟩ : ∃ c0 c2, decide ((i : Int) < m0) = c0 ∧ decide ((i : Int) < 8) = c2 := ⟨_, _, rfl, rfl⟩
    have hc : (c0 && c2) = false := by
      rw [← d0, ← d2]; simp; omega
    have hn8 : n ≤ 8 := by omega
    clear hT hi hni h hm0
    obtain ⟨H, hH⟩ : ∃ H, horV T s 9 = H := ⟨_, rfl⟩
    cases c0 <;> cases c2 <;> first | cases hc | skip
    all_goals
      simp only [go_sem, ↓reduceIte, Nat.reduceEqDiff, Nat.reduceLT, Nat.reduceLeDiff, Nat.reduceAdd, Nat.reduceMul, Nat.reduceSub, Nat.reduceDiv, Nat.reduceMod, Int.reduceToNat, Int.reduceLT, Int.reduceLE, Int.reduceAdd, Int.reduceSub, Int.reduceMul, Int.reduceEq, Int.reduceNeg, reduceCtorEq, or_false, false_or, decide_true, decide_false, Int.cast_ofNat_Int, Nat.zero_add, Nat.add_zero, Int.toNat_natCast, Option.isNone_none, Option.isNone_some, Bool.not_true, Bool.not_false, Bool.xor_true, Bool.xor_false, Bool.true_xor, Bool.false_xor, decide_true, decide_false, Bool.and_true, Bool.true_and, Bool.and_false, Bool.false_and, eq_self, ne_eq, not_false_eq_true, not_true_eq_false, true_and, and_true, and_self, d0, d2, n0]
      refine tab_call 2 (T := T) (T' := T) (v := H.v) [ptr g, s.v] (sv4 _ _ _ _) Try.call36 (fun w h => by have := hor_c g T _ s w h; rw [hH] at this; exact this) rfl rfl (fun _ => rfl) (fun _ => rfl) rfl fun fp1 => ?_
      simp only [go_sem, ↓reduceIte, Nat.reduceEqDiff, Nat.reduceLT, Nat.reduceLeDiff, Nat.reduceAdd, Nat.reduceMul, Nat.reduceSub, Nat.reduceDiv, Nat.reduceMod, Int.reduceToNat, Int.reduceLT, Int.reduceLE, Int.reduceAdd, Int.reduceSub, Int.reduceMul, Int.reduceEq, Int.reduceNeg, reduceCtorEq, or_false, false_or, decide_true, decide_false, Int.cast_ofNat_Int, Nat.zero_add, Nat.add_zero, Int.toNat_natCast, Option.isNone_none, Option.isNone_some, Bool.not_true, Bool.not_false, Bool.xor_true, Bool.xor_false, Bool.true_xor, Bool.false_xor, decide_true, decide_false, Bool.and_true, Bool.true_and, Bool.and_false, Bool.false_and, eq_self, ne_eq, not_false_eq_true, not_true_eq_false, true_and, and_true, and_self]
      have h1 : horV T s 1 = s := by simp [horV, isT, inS]
      refine sloop (fun p : Nat × List Nat => ⟨[(14, .c (.v (.int .i64 (p.1 : Nat)))), (13, .c (.p 5 0 0)), (12, .c (.p 4 0 0)), (10, .c (.v (.int .i64 n))), (9, .c (.p 3 0 0)), (8, .c (.v (ptr g))), (7, .c (.v (.bool true))), (2, .c (.v (.int .u8 en)))], [(5, .cells 25 [cu (horV T s p.1).a, cu (horV T s p.1).b, cu (horV T s p.1).c, cu (horV T s p.1).d]), (4, .cells 25 [cu H.a, cu H.b, cu H.c, cu H.d]), (3, .cells 25 [cu s.a, cu s.b, cu s.c, cu s.d]), (2, .pred p.2 (TabIs g T p.2))], 6⟩)
        (fun p => 1 ≤ p.1 ∧ p.1 ≤ 9) (fun p => 9 - p.1) (1, fp1) ⟨by simp, by simp⟩ (by simp only [h1]; exact ent_drop ⟨rfl, rfl, rfl, rfl, rfl, rfl, rfl, rfl, trivial⟩ ⟨rfl, rfl, rfl, rfl, trivial⟩ (by simp)) (fun p hp => ?_)
      obtain ⟨k, fp2⟩ := p
      obtain ⟨hk1, hk9⟩ : 1 ≤ k ∧ k ≤ 9 := hp
      by_cases hk : k ≤ 8
      · have d6 : decide ((k : Int) ≤ 8) = true := by simp; omega
        have w2 : IntKind.i64.wrap ((k : Int) + 1) = ((k + 1 : Nat) : Int) := wrap_i64 _ (by omega) (by omega)
        simp only [go_sem, ↓reduceIte, Nat.reduceEqDiff, Nat.reduceLT, Nat.reduceLeDiff, Nat.reduceAdd, Nat.reduceMul, Nat.reduceSub, Nat.reduceDiv, Nat.reduceMod, Int.reduceToNat, Int.reduceLT, Int.reduceLE, Int.reduceAdd, Int.reduceSub, Int.reduceMul, Int.reduceEq, Int.reduceNeg, reduceCtorEq, or_false, false_or, decide_true, decide_false, Int.cast_ofNat_Int, Nat.zero_add, Nat.add_zero, Int.toNat_natCast, Option.isNone_none, Option.isNone_some, Bool.not_true, Bool.not_false, Bool.xor_true, Bool.xor_false, Bool.true_xor, Bool.false_xor, decide_true, decide_false, Bool.and_true, Bool.true_and, Bool.and_false, Bool.false_and, eq_self, ne_eq, not_false_eq_true, not_true_eq_false, true_and, and_true, and_self, d6]
        refine tab_call 2 (T := T) (T' := T) (v := .tuple #[V4.v (snapV T k), .bool (isT T k)]) [ptr g, .int .i64 k] (.tup [sv4 _ _ _ _, .c (.v (.bool _))]) Try.call28 (fun w h => snap_c g T _ k w h) rfl rfl (fun _ => rfl) (fun _ => rfl) rfl fun fp3 => ?_
        cases hik : isT T k
        · have e : horV T s (k + 1) = horV T s k := by simp [horV, hik]
          simp only [go_sem, ↓reduceIte, Nat.reduceEqDiff, Nat.reduceLT, Nat.reduceLeDiff, Nat.reduceAdd, Nat.reduceMul, Nat.reduceSub, Nat.reduceDiv, Nat.reduceMod, Int.reduceToNat, Int.reduceLT, Int.reduceLE, Int.reduceAdd, Int.reduceSub, Int.reduceMul, Int.reduceEq, Int.reduceNeg, reduceCtorEq, or_false, false_or, decide_true, decide_false, Int.cast_ofNat_Int, Nat.zero_add, Nat.add_zero, Int.toNat_natCast, Option.isNone_none, Option.isNone_some, Bool.not_true, Bool.not_false, Bool.xor_true, Bool.xor_false, Bool.true_xor, Bool.false_xor, decide_true, decide_false, Bool.and_true, Bool.true_and, Bool.and_false, Bool.false_and, eq_self, ne_eq, not_false_eq_true, not_true_eq_false, true_and, and_true, and_self, w2]
          exact ⟨(k + 1, fp3), ⟨by show 1 ≤ k + 1; omega, by show k + 1 ≤ 9; omega⟩, by show 9 - (k + 1) < 9 - k; omega, by simp only [e]; exact ent_low ⟨rfl, rfl, rfl, rfl, rfl, rfl, rfl, rfl, trivial⟩ ⟨rfl, rfl, rfl, rfl, trivial⟩ (by simp) (by simp [frBl, SV.bl, CV.bl]) (by simp [hpBl, Blk.bl, CV.blL, CV.bl]) (by simp)⟩
        · have e : horV T s (k + 1) = (horV T s k).meet (T k).sn := by simp [horV, hik]
          have hsn : snapV T k = (T k).sn := by
            unfold isT at hik; unfold snapV; rw [hik, Int.toNat_natCast]; rfl
          have hle : H.leq (T k).sn = true := by rw [leq_iff, ← hH]; exact hor_le T s hik 9 (by omega)
          rw [hsn]
          simp only [go_sem, ↓reduceIte, Nat.reduceEqDiff, Nat.reduceLT, Nat.reduceLeDiff, Nat.reduceAdd, Nat.reduceMul, Nat.reduceSub, Nat.reduceDiv, Nat.reduceMod, Int.reduceToNat, Int.reduceLT, Int.reduceLE, Int.reduceAdd, Int.reduceSub, Int.reduceMul, Int.reduceEq, Int.reduceNeg, reduceCtorEq, or_false, false_or, decide_true, decide_false, Int.cast_ofNat_Int, Nat.zero_add, Nat.add_zero, Int.toNat_natCast, Option.isNone_none, Option.isNone_some, Bool.not_true, Bool.not_false, Bool.xor_true, Bool.xor_false, Bool.true_xor, Bool.false_xor, decide_true, decide_false, Bool.and_true, Bool.true_and, Bool.and_false, Bool.false_and, eq_self, ne_eq, not_false_eq_true, not_true_eq_false, true_and, and_true, and_self]
          refine scall_pure [H.v, V4.v (T k).sn] (.c (.v (.bool true))) (.bool true) Try.call43 (fun w => by have := leq_c H (T k).sn w; rw [hle] at this; exact this) rfl (fun _ => rfl) (fun _ => rfl) ?_
          simp only [go_sem, ↓reduceIte, Nat.reduceEqDiff, Nat.reduceLT, Nat.reduceLeDiff, Nat.reduceAdd, Nat.reduceMul, Nat.reduceSub, Nat.reduceDiv, Nat.reduceMod, Int.reduceToNat, Int.reduceLT, Int.reduceLE, Int.reduceAdd, Int.reduceSub, Int.reduceMul, Int.reduceEq, Int.reduceNeg, reduceCtorEq, or_false, false_or, decide_true, decide_false, Int.cast_ofNat_Int, Nat.zero_add, Nat.add_zero, Int.toNat_natCast, Option.isNone_none, Option.isNone_some, Bool.not_true, Bool.not_false, Bool.xor_true, Bool.xor_false, Bool.true_xor, Bool.false_xor, decide_true, decide_false, Bool.and_true, Bool.true_and, Bool.and_false, Bool.false_and, eq_self, ne_eq, not_false_eq_true, not_true_eq_false, true_and, and_true, and_self]
          refine scall_pure [V4.v (horV T s k), V4.v (T k).sn] (sv4 _ _ _ _) (V4.v ((horV T s k).meet (T k).sn)) Try.call44 (meet_c _ _) rfl (fun _ => rfl) (fun _ => rfl) ?_
          simp only [go_sem, ↓reduceIte, Nat.reduceEqDiff, Nat.reduceLT, Nat.reduceLeDiff, Nat.reduceAdd, Nat.reduceMul, Nat.reduceSub, Nat.reduceDiv, Nat.reduceMod, Int.reduceToNat, Int.reduceLT, Int.reduceLE, Int.reduceAdd, Int.reduceSub, Int.reduceMul, Int.reduceEq, Int.reduceNeg, reduceCtorEq, or_false, false_or, decide_true, decide_false, Int.cast_ofNat_Int, Nat.zero_add, Nat.add_zero, Int.toNat_natCast, Option.isNone_none, Option.isNone_some, Bool.not_true, Bool.not_false, Bool.xor_true, Bool.xor_false, Bool.true_xor, Bool.false_xor, decide_true, decide_false, Bool.and_true, Bool.true_and, Bool.and_false, Bool.false_and, eq_self, ne_eq, not_false_eq_true, not_true_eq_false, true_and, and_true, and_self, w2]
          exact ⟨(k + 1, fp3), ⟨by show 1 ≤ k + 1; omega, by show k + 1 ≤ 9; omega⟩, by show 9 - (k + 1) < 9 - k; omega, by simp only [e]; exact ent_low ⟨rfl, rfl, rfl, rfl, rfl, rfl, rfl, rfl, trivial⟩ ⟨rfl, rfl, rfl, rfl, trivial⟩ (by simp) (by simp [frBl, SV.bl, CV.bl]) (by simp [hpBl, Blk.bl, CV.blL, CV.bl]) (by simp)⟩
      · obtain rfl : k = 9 := by omega
        have d6 : decide (((9 : Nat) : Int) ≤ 8) = false := by decide
        have hid : IntKind.i64.wrap ((en : Int).tmod 8) = ((en % 8 : Nat) : Int) := by
          rw [show (en : Int).tmod 8 = ((en % 8 : Nat) : Int) from rfl]; exact wrap_i64 _ (by omega) (by omega)
        have hid2 : IntKind.i64.wrap (1 + ((en % 8 : Nat) : Int)) = ((1 + en % 8 : Nat) : Int) := by rw [wrap_i64 _ (by omega) (by omega)]; omega
        have hq : 1 ≤ 1 + en % 8 ∧ 1 + en % 8 ≤ 8 := by omega
        have hM := manyN_end T (1 + en % 8) hq
        generalize 1 + en % 8 = q at hid2 hq hM
        rw [hH]
        simp only [go_sem, ↓reduceIte, Nat.reduceEqDiff, Nat.reduceLT, Nat.reduceLeDiff, Nat.reduceAdd, Nat.reduceMul, Nat.reduceSub, Nat.reduceDiv, Nat.reduceMod, Int.reduceToNat, Int.reduceLT, Int.reduceLE, Int.reduceAdd, Int.reduceSub, Int.reduceMul, Int.reduceEq, Int.reduceNeg, reduceCtorEq, or_false, false_or, decide_true, decide_false, Int.cast_ofNat_Int, Nat.zero_add, Nat.add_zero, Int.toNat_natCast, Option.isNone_none, Option.isNone_some, Bool.not_true, Bool.not_false, Bool.xor_true, Bool.xor_false, Bool.true_xor, Bool.false_xor, decide_true, decide_false, Bool.and_true, Bool.true_and, Bool.and_false, Bool.false_and, eq_self, ne_eq, not_false_eq_true, not_true_eq_false, true_and, and_true, and_self, d6, hid, hid2]
        have hLs : H.leq s = true := by rw [leq_iff, ← hH]; exact hor_le_s T s 9
        obtain ⟨L, hL⟩ : ∃ L, horV (endT T q) s 9 = L := ⟨_, rfl⟩
        have hLl : H.leq L = true := by rw [leq_iff, ← hH, ← hL]; exact hor_end T s q 9
        rw [hn] at hM
        have hz : n = 0 → H = s := fun h0 => by
          rw [← hH]
          refine hor_none T s 9 fun m hm => ?_
          have := manyN_no T 9 (by omega) m hm
          simp [isT, this]
        have w3 : IntKind.i64.wrap ((n : Int) - 1) = (n : Int) - 1 := wrap_i64 _ (by omega) (by omega)
        refine tab_call 2 (T := T) (T' := endT T q) (v := .int .i64 (endE T q)) [ptr g, .int .i64 q] (.c (.v (.int .i64 (endE T q)))) Try.call21 (fun w h => end_c g T _ q w h) rfl rfl (fun _ => rfl) (fun _ => rfl) rfl fun fp3 => ?_
        simp only [go_sem, ↓reduceIte, Nat.reduceEqDiff, Nat.reduceLT, Nat.reduceLeDiff, Nat.reduceAdd, Nat.reduceMul, Nat.reduceSub, Nat.reduceDiv, Nat.reduceMod, Int.reduceToNat, Int.reduceLT, Int.reduceLE, Int.reduceAdd, Int.reduceSub, Int.reduceMul, Int.reduceEq, Int.reduceNeg, reduceCtorEq, or_false, false_or, decide_true, decide_false, Int.cast_ofNat_Int, Nat.zero_add, Nat.add_zero, Int.toNat_natCast, Option.isNone_none, Option.isNone_some, Bool.not_true, Bool.not_false, Bool.xor_true, Bool.xor_false, Bool.true_xor, Bool.false_xor, decide_true, decide_false, Bool.and_true, Bool.true_and, Bool.and_false, Bool.false_and, eq_self, ne_eq, not_false_eq_true, not_true_eq_false, true_and, and_true, and_self]
        refine tab_call 2 (T := endT T q) (T' := endT T q) (v := L.v) [ptr g, s.v] (sv4 _ _ _ _) Try.call36 (fun w h => by have := hor_c g (endT T q) _ s w h; rw [hL] at this; exact this) rfl rfl (fun _ => rfl) (fun _ => rfl) rfl fun fp4 => ?_
        cases hE : decide (endE T q = 0)
        · rw [if_neg (by simpa using hE)] at hM
          simp only [go_sem, ↓reduceIte, Nat.reduceEqDiff, Nat.reduceLT, Nat.reduceLeDiff, Nat.reduceAdd, Nat.reduceMul, Nat.reduceSub, Nat.reduceDiv, Nat.reduceMod, Int.reduceToNat, Int.reduceLT, Int.reduceLE, Int.reduceAdd, Int.reduceSub, Int.reduceMul, Int.reduceEq, Int.reduceNeg, reduceCtorEq, or_false, false_or, decide_true, decide_false, Int.cast_ofNat_Int, Nat.zero_add, Nat.add_zero, Int.toNat_natCast, Option.isNone_none, Option.isNone_some, Bool.not_true, Bool.not_false, Bool.xor_true, Bool.xor_false, Bool.true_xor, Bool.false_xor, decide_true, decide_false, Bool.and_true, Bool.true_and, Bool.and_false, Bool.false_and, eq_self, ne_eq, not_false_eq_true, not_true_eq_false, true_and, and_true, and_self, hE]
          refine scall_pure [H.v, s.v] (.c (.v (.bool true))) (.bool true) Try.call43 (fun w => by have := leq_c H s w; rw [hLs] at this; exact this) rfl (fun _ => rfl) (fun _ => rfl) ?_
          simp only [go_sem, ↓reduceIte, Nat.reduceEqDiff, Nat.reduceLT, Nat.reduceLeDiff, Nat.reduceAdd, Nat.reduceMul, Nat.reduceSub, Nat.reduceDiv, Nat.reduceMod, Int.reduceToNat, Int.reduceLT, Int.reduceLE, Int.reduceAdd, Int.reduceSub, Int.reduceMul, Int.reduceEq, Int.reduceNeg, reduceCtorEq, or_false, false_or, decide_true, decide_false, Int.cast_ofNat_Int, Nat.zero_add, Nat.add_zero, Int.toNat_natCast, Option.isNone_none, Option.isNone_some, Bool.not_true, Bool.not_false, Bool.xor_true, Bool.xor_false, Bool.true_xor, Bool.false_xor, decide_true, decide_false, Bool.and_true, Bool.true_and, Bool.and_false, Bool.false_and, eq_self, ne_eq, not_false_eq_true, not_true_eq_false, true_and, and_true, and_self]
          refine scall_pure [H.v, L.v] (.c (.v (.bool true))) (.bool true) Try.call43 (fun w => by have := leq_c H L w; rw [hLl] at this; exact this) rfl (fun _ => rfl) (fun _ => rfl) ?_
          simp only [go_sem, ↓reduceIte, Nat.reduceEqDiff, Nat.reduceLT, Nat.reduceLeDiff, Nat.reduceAdd, Nat.reduceMul, Nat.reduceSub, Nat.reduceDiv, Nat.reduceMod, Int.reduceToNat, Int.reduceLT, Int.reduceLE, Int.reduceAdd, Int.reduceSub, Int.reduceMul, Int.reduceEq, Int.reduceNeg, reduceCtorEq, or_false, false_or, decide_true, decide_false, Int.cast_ofNat_Int, Nat.zero_add, Nat.add_zero, Int.toNat_natCast, Option.isNone_none, Option.isNone_some, Bool.not_true, Bool.not_false, Bool.xor_true, Bool.xor_false, Bool.true_xor, Bool.false_xor, decide_true, decide_false, Bool.and_true, Bool.true_and, Bool.and_false, Bool.false_and, eq_self, ne_eq, not_false_eq_true, not_true_eq_false, true_and, and_true, and_self]
          refine tab_call 2 (T := endT T q) (T' := endT T q) (v := .int .i64 n) [ptr g] (.c (.v (.int .i64 n))) Try.call38 (fun w h => by have := many_c g (endT T q) _ w h; rw [hM] at this; exact this) rfl rfl (fun _ => rfl) (fun _ => rfl) rfl fun fp5 => ?_
          cases hpos : decide ((0 : Int) < n)
          · obtain rfl : H = s := hz (by simp at hpos; omega)
            simp only [go_sem, ↓reduceIte, Nat.reduceEqDiff, Nat.reduceLT, Nat.reduceLeDiff, Nat.reduceAdd, Nat.reduceMul, Nat.reduceSub, Nat.reduceDiv, Nat.reduceMod, Int.reduceToNat, Int.reduceLT, Int.reduceLE, Int.reduceAdd, Int.reduceSub, Int.reduceMul, Int.reduceEq, Int.reduceNeg, reduceCtorEq, or_false, false_or, decide_true, decide_false, Int.cast_ofNat_Int, Nat.zero_add, Nat.add_zero, Int.toNat_natCast, Option.isNone_none, Option.isNone_some, Bool.not_true, Bool.not_false, Bool.xor_true, Bool.xor_false, Bool.true_xor, Bool.false_xor, decide_true, decide_false, Bool.and_true, Bool.true_and, Bool.and_false, Bool.false_and, eq_self, ne_eq, not_false_eq_true, not_true_eq_false, true_and, and_true, and_self, hpos]
            exact fun ρ a w hs _ => ⟨rfl, hs.grown⟩
          · simp only [go_sem, ↓reduceIte, Nat.reduceEqDiff, Nat.reduceLT, Nat.reduceLeDiff, Nat.reduceAdd, Nat.reduceMul, Nat.reduceSub, Nat.reduceDiv, Nat.reduceMod, Int.reduceToNat, Int.reduceLT, Int.reduceLE, Int.reduceAdd, Int.reduceSub, Int.reduceMul, Int.reduceEq, Int.reduceNeg, reduceCtorEq, or_false, false_or, decide_true, decide_false, Int.cast_ofNat_Int, Nat.zero_add, Nat.add_zero, Int.toNat_natCast, Option.isNone_none, Option.isNone_some, Bool.not_true, Bool.not_false, Bool.xor_true, Bool.xor_false, Bool.true_xor, Bool.false_xor, decide_true, decide_false, Bool.and_true, Bool.true_and, Bool.and_false, Bool.false_and, eq_self, ne_eq, not_false_eq_true, not_true_eq_false, true_and, and_true, and_self, hpos]
            exact fun ρ a w hs _ => ⟨rfl, hs.grown⟩
        · rw [if_pos (by simpa using hE)] at hM
          simp only [go_sem, ↓reduceIte, Nat.reduceEqDiff, Nat.reduceLT, Nat.reduceLeDiff, Nat.reduceAdd, Nat.reduceMul, Nat.reduceSub, Nat.reduceDiv, Nat.reduceMod, Int.reduceToNat, Int.reduceLT, Int.reduceLE, Int.reduceAdd, Int.reduceSub, Int.reduceMul, Int.reduceEq, Int.reduceNeg, reduceCtorEq, or_false, false_or, decide_true, decide_false, Int.cast_ofNat_Int, Nat.zero_add, Nat.add_zero, Int.toNat_natCast, Option.isNone_none, Option.isNone_some, Bool.not_true, Bool.not_false, Bool.xor_true, Bool.xor_false, Bool.true_xor, Bool.false_xor, decide_true, decide_false, Bool.and_true, Bool.true_and, Bool.and_false, Bool.false_and, eq_self, ne_eq, not_false_eq_true, not_true_eq_false, true_and, and_true, and_self, hE, w3]
          refine scall_pure [H.v, s.v] (.c (.v (.bool true))) (.bool true) Try.call43 (fun w => by have := leq_c H s w; rw [hLs] at this; exact this) rfl (fun _ => rfl) (fun _ => rfl) ?_
          simp only [go_sem, ↓reduceIte, Nat.reduceEqDiff, Nat.reduceLT, Nat.reduceLeDiff, Nat.reduceAdd, Nat.reduceMul, Nat.reduceSub, Nat.reduceDiv, Nat.reduceMod, Int.reduceToNat, Int.reduceLT, Int.reduceLE, Int.reduceAdd, Int.reduceSub, Int.reduceMul, Int.reduceEq, Int.reduceNeg, reduceCtorEq, or_false, false_or, decide_true, decide_false, Int.cast_ofNat_Int, Nat.zero_add, Nat.add_zero, Int.toNat_natCast, Option.isNone_none, Option.isNone_some, Bool.not_true, Bool.not_false, Bool.xor_true, Bool.xor_false, Bool.true_xor, Bool.false_xor, decide_true, decide_false, Bool.and_true, Bool.true_and, Bool.and_false, Bool.false_and, eq_self, ne_eq, not_false_eq_true, not_true_eq_false, true_and, and_true, and_self]
          refine scall_pure [H.v, L.v] (.c (.v (.bool true))) (.bool true) Try.call43 (fun w => by have := leq_c H L w; rw [hLl] at this; exact this) rfl (fun _ => rfl) (fun _ => rfl) ?_
          simp only [go_sem, ↓reduceIte, Nat.reduceEqDiff, Nat.reduceLT, Nat.reduceLeDiff, Nat.reduceAdd, Nat.reduceMul, Nat.reduceSub, Nat.reduceDiv, Nat.reduceMod, Int.reduceToNat, Int.reduceLT, Int.reduceLE, Int.reduceAdd, Int.reduceSub, Int.reduceMul, Int.reduceEq, Int.reduceNeg, reduceCtorEq, or_false, false_or, decide_true, decide_false, Int.cast_ofNat_Int, Nat.zero_add, Nat.add_zero, Int.toNat_natCast, Option.isNone_none, Option.isNone_some, Bool.not_true, Bool.not_false, Bool.xor_true, Bool.xor_false, Bool.true_xor, Bool.false_xor, decide_true, decide_false, Bool.and_true, Bool.true_and, Bool.and_false, Bool.false_and, eq_self, ne_eq, not_false_eq_true, not_true_eq_false, true_and, and_true, and_self]
          refine tab_call 2 (T := endT T q) (T' := endT T q) (v := .int .i64 ((n : Int) - 1)) [ptr g] (.c (.v (.int .i64 ((n : Int) - 1)))) Try.call38 (fun w h => by have := many_c g (endT T q) _ w h; rw [hM] at this; exact this) rfl rfl (fun _ => rfl) (fun _ => rfl) rfl fun fp5 => ?_
          cases hpos : decide ((0 : Int) < n)
          · obtain rfl : H = s := hz (by simp at hpos; omega)
            simp only [go_sem, ↓reduceIte, Nat.reduceEqDiff, Nat.reduceLT, Nat.reduceLeDiff, Nat.reduceAdd, Nat.reduceMul, Nat.reduceSub, Nat.reduceDiv, Nat.reduceMod, Int.reduceToNat, Int.reduceLT, Int.reduceLE, Int.reduceAdd, Int.reduceSub, Int.reduceMul, Int.reduceEq, Int.reduceNeg, reduceCtorEq, or_false, false_or, decide_true, decide_false, Int.cast_ofNat_Int, Nat.zero_add, Nat.add_zero, Int.toNat_natCast, Option.isNone_none, Option.isNone_some, Bool.not_true, Bool.not_false, Bool.xor_true, Bool.xor_false, Bool.true_xor, Bool.false_xor, decide_true, decide_false, Bool.and_true, Bool.true_and, Bool.and_false, Bool.false_and, eq_self, ne_eq, not_false_eq_true, not_true_eq_false, true_and, and_true, and_self, hpos]
            exact fun ρ a w hs _ => ⟨rfl, hs.grown⟩
          · simp only [go_sem, ↓reduceIte, Nat.reduceEqDiff, Nat.reduceLT, Nat.reduceLeDiff, Nat.reduceAdd, Nat.reduceMul, Nat.reduceSub, Nat.reduceDiv, Nat.reduceMod, Int.reduceToNat, Int.reduceLT, Int.reduceLE, Int.reduceAdd, Int.reduceSub, Int.reduceMul, Int.reduceEq, Int.reduceNeg, reduceCtorEq, or_false, false_or, decide_true, decide_false, Int.cast_ofNat_Int, Nat.zero_add, Nat.add_zero, Int.toNat_natCast, Option.isNone_none, Option.isNone_some, Bool.not_true, Bool.not_false, Bool.xor_true, Bool.xor_false, Bool.true_xor, Bool.false_xor, decide_true, decide_false, Bool.and_true, Bool.true_and, Bool.and_false, Bool.false_and, eq_self, ne_eq, not_false_eq_true, not_true_eq_false, true_and, and_true, and_self, hpos]
            exact fun ρ a w hs _ => ⟨rfl, hs.grown⟩
end Go.Proofs.Ytfokingbglkmjaa
