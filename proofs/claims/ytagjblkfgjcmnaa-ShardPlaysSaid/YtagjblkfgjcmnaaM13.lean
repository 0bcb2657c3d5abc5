/-
  Parts of the proof: RefS, RWr, RSd, RSd2, RSd3, RSd4, RSd5, RSd6, RSd7, RSd8, RSd9, Plays10. Conditions: none.
-/
import Derived.Test.YtagjblkfgjcmnaaM12
import Derived.Test.YtagjblkfgjcmnaaM11
set_option linter.unusedVariables false
set_option linter.unusedSimpArgs false
set_option linter.unusedSectionVars false
namespace Go.Proofs.Ytagjblkfgjcmnaa
open Go.RowKit Go.Sx
attribute [local go_sem ↓] reduceIte
attribute [local go_sem] Nat.reduceEqDiff Nat.reduceLT Nat.reduceLeDiff Nat.reduceAdd Nat.reduceMul Nat.reduceSub Nat.reduceDiv Nat.reduceMod Int.reduceToNat Int.reduceLT Int.reduceLE Int.reduceAdd Int.reduceSub Int.reduceMul Int.reduceEq Int.reduceNeg reduceCtorEq or_false false_or decide_true decide_false Int.cast_ofNat_Int Nat.zero_add Nat.add_zero Int.toNat_natCast Option.isNone_none Option.isNone_some Bool.not_true Bool.not_false Bool.xor_true Bool.xor_false Bool.true_xor Bool.false_xor Bool.and_true Bool.true_and Bool.and_false Bool.false_and eq_self ne_eq not_false_eq_true not_true_eq_false true_and and_true and_self

set_option maxHeartbeats 1000000 in
theorem rright_c (x : V4) (w : World) : Calls Try.prog 77 #[x.v] w fun e w' => e = .returned (.bool x.right) ∧ Below w.heap.size w w' := by
  obtain ⟨a0, a1, a2, a3⟩ := x
  refine calls_pure 12 _ Try.func77 rfl Try.ntmps77 Try.results77 [sv4 a0 a1 a2 a3] (by simp) (fun _ => rfl) ?_
  obtain ⟨c0, c1, c2, c3, d0, d1, d2, d3⟩ : ∃ c0 c1 c2 c3, decide ((1152921504606846976 : Int) < a0) = c0 ∧ decide ((1152921504606846976 : Int) < a1) = c1 ∧ decide ((1152921504606846976 : Int) < a2) = c2 ∧ decide ((1152921504606846976 : Int) < a3) = c3 := ⟨_, _, _, _, rfl, rfl, rfl, rfl⟩
  have h : V4.right ⟨a0, a1, a2, a3⟩ = (!c0 && (!c1 && (!c2 && !c3))) := by
    rw [← d0, ← d1, ← d2, ← d3]
    unfold V4.right V4.leq
    simp only [← decide_not, Int.not_lt]
  rw [h]
  cases c0 <;> cases c1 <;> cases c2 <;> cases c3
  all_goals
    simp only [go_sem]
    refine sloop_rounds 5 ?_
    simp only [go_sem, d0, d1, d2, d3]
    exact fun ρ a w hs _ => ⟨rfl, hs.grown⟩
set_option maxHeartbeats 1000000 in
theorem rleq_c (x y : V4) (w : World) : Calls Try.prog 73 #[x.v, y.v] w fun e w' => e = .returned (.bool (x.leq y)) ∧ Below w.heap.size w w' := by
  obtain ⟨a0, a1, a2, a3⟩ := x; obtain ⟨b0, b1, b2, b3⟩ := y
  refine calls_pure 17 _ Try.func73 rfl Try.ntmps73 Try.results73 [sv4 a0 a1 a2 a3, sv4 b0 b1 b2 b3] (by simp) (fun _ => rfl) ?_
  obtain ⟨c0, c1, c2, c3, d0, d1, d2, d3⟩ : ∃ c0 c1 c2 c3, decide (b0 < a0) = c0 ∧ decide (b1 < a1) = c1 ∧ decide (b2 < a2) = c2 ∧ decide (b3 < a3) = c3 := ⟨_, _, _, _, rfl, rfl, rfl, rfl⟩
  have h : V4.leq ⟨a0, a1, a2, a3⟩ ⟨b0, b1, b2, b3⟩ = (!c0 && (!c1 && (!c2 && !c3))) := by
    rw [← d0, ← d1, ← d2, ← d3]
    unfold V4.leq
    simp only [← decide_not, Int.not_lt]
  rw [h]
  simp only [go_sem]
  refine sloop_rounds 5 ?_
  simp only [go_sem]
  refine sdraw0 [.t 0, .t 1, .t 2, .t 3, .t 4, .t 5, .t 6] 7 rfl (by kernel_rfl) ?_
  cases c0
  · simp only [go_sem, d0]
    refine sdraw0 [.t 0, .t 1, .t 2, .t 3, .t 4, .t 5, .t 6] 7 rfl (by kernel_rfl) ?_
    cases c1
    · simp only [go_sem, d1]
      refine sdraw0 [.t 0, .t 1, .t 2, .t 3, .t 4, .t 5, .t 6] 7 rfl (by kernel_rfl) ?_
      cases c2
      · simp only [go_sem, d2]
        refine sdraw0 [.t 0, .t 1, .t 2, .t 3, .t 4, .t 5, .t 6] 7 rfl (by kernel_rfl) ?_
        cases c3
        · simp only [go_sem, d3]
          exact fun ρ a w hs _ => ⟨rfl, hs.grown⟩
        · simp only [go_sem, d3]
          exact fun ρ a w hs _ => ⟨rfl, hs.grown⟩
      · simp only [go_sem, d2]
        exact fun ρ a w hs _ => ⟨rfl, hs.grown⟩
    · simp only [go_sem, d1]
      exact fun ρ a w hs _ => ⟨rfl, hs.grown⟩
  · simp only [go_sem, d0]
    exact fun ρ a w hs _ => ⟨rfl, hs.grown⟩
theorem rsum_c (x : V4) (w : World) : Calls Try.prog 89 #[x.v] w fun e w' => e = .returned (vu x.sum) ∧ Below w.heap.size w w' := by
  obtain ⟨a0, a1, a2, a3⟩ := x
  refine calls_pure 14 _ Try.func89 rfl Try.ntmps89 Try.results89 [sv4 a0 a1 a2 a3] (by simp) (fun _ => rfl) ?_
  have e : V4.sum ⟨a0, a1, a2, a3⟩ = IntKind.u64.wrap (IntKind.u64.wrap (IntKind.u64.wrap (a0 + a1) + a2) + a3) := by
    simp only [V4.sum, IntKind.wrap, IntKind.bits, IntKind.signed]
    simp
  simp only [go_sem]
  exact fun ρ a w hs _ => ⟨by rw [e]; rfl, hs.grown⟩
theorem rat_c (x : V4) (n : Int) (w : World) : Calls Try.prog 44 #[x.v, .int .i64 n] w fun e w' => e = .returned (vu (x.at n)) ∧ Below w.heap.size w w' := by
  obtain ⟨a0, a1, a2, a3⟩ := x
  refine calls_pure 15 _ Try.func44 rfl Try.ntmps44 Try.results44 [sv4 a0 a1 a2 a3, .c (.v (.int .i64 n))] (by simp) (fun _ => rfl) ?_
  by_cases h : n = 1 ∨ n = 2 ∨ n = 3 ∨ n = 4
  · rcases h with rfl | rfl | rfl | rfl
    all_goals
      simp only [go_sem]
      exact fun ρ a w hs _ => ⟨rfl, hs.grown⟩
  · have e : V4.at ⟨a0, a1, a2, a3⟩ n = 0 := by simp only [V4.at]; split <;> (try split) <;> (try split) <;> (try split) <;> omega
    rw [e]
    by_cases h1 : n < 1
    · simp (disch := omega) only [go_sem, wrapI64, wrapu64, wrapu32, wrapu8, ltT, ltF, leT, leF, eqF, eqT, nltT, nleT, neqFn]
      exact fun ρ a w hs _ => ⟨rfl, hs.grown⟩
    · simp (disch := omega) only [go_sem, wrapI64, wrapu64, wrapu32, wrapu8, ltT, ltF, leT, leF, eqF, eqT, nltT, nleT, neqFn]
      exact fun ρ a w hs _ => ⟨rfl, hs.grown⟩
def V4.less (x y : V4) : Bool := if x.a ≠ y.a then decide (x.a < y.a) else if x.b ≠ y.b then decide (x.b < y.b) else if x.c ≠ y.c then decide (x.c < y.c) else if x.d ≠ y.d then decide (x.d < y.d) else false
set_option maxHeartbeats 1000000 in
theorem rless_c (x y : V4) (w : World) : Calls Try.prog 90 #[x.v, y.v] w fun e w' => e = .returned (.bool (x.less y)) ∧ Below w.heap.size w w' := by
  obtain ⟨a0, a1, a2, a3⟩ := x; obtain ⟨b0, b1, b2, b3⟩ := y
  refine calls_pure 24 _ Try.func90 rfl Try.ntmps90 Try.results90 [sv4 a0 a1 a2 a3, sv4 b0 b1 b2 b3] (by simp) (fun _ => rfl) ?_
  unfold V4.less
  simp only [go_sem]
  refine sloop_rounds 5 ?_
  simp only [go_sem]
  refine sdraw0 [.t 0, .t 1, .t 2, .t 3, .t 4, .t 5, .t 6] 7 rfl (by kernel_rfl) ?_
  by_cases h0 : a0 = b0
  · subst h0
    simp only [go_sem]
    refine sdraw0 [.t 0, .t 1, .t 2, .t 3, .t 4, .t 5, .t 6] 7 rfl (by kernel_rfl) ?_
    by_cases h1 : a1 = b1
    · subst h1
      simp only [go_sem]
      refine sdraw0 [.t 0, .t 1, .t 2, .t 3, .t 4, .t 5, .t 6] 7 rfl (by kernel_rfl) ?_
      by_cases h2 : a2 = b2
      · subst h2
        simp only [go_sem]
        refine sdraw0 [.t 0, .t 1, .t 2, .t 3, .t 4, .t 5, .t 6] 7 rfl (by kernel_rfl) ?_
        by_cases h3 : a3 = b3
        · subst h3
          simp only [go_sem]
          exact fun ρ a w hs _ => ⟨by simp [SV.den, CV.den], hs.grown⟩
        · simp only [go_sem, h3]
          refine sdraw0 [.t 0, .t 1, .t 2, .t 3, .t 4, .t 5, .t 6, .t 7] 8 rfl (by kernel_rfl) ?_
          simp only [go_sem]
          exact fun ρ a w hs _ => ⟨by simp [SV.den, CV.den, h3], hs.grown⟩
      · simp only [go_sem, h2]
        refine sdraw0 [.t 0, .t 1, .t 2, .t 3, .t 4, .t 5, .t 6, .t 7] 8 rfl (by kernel_rfl) ?_
        simp only [go_sem]
        exact fun ρ a w hs _ => ⟨by simp [SV.den, CV.den, h2], hs.grown⟩
    · simp only [go_sem, h1]
      refine sdraw0 [.t 0, .t 1, .t 2, .t 3, .t 4, .t 5, .t 6, .t 7] 8 rfl (by kernel_rfl) ?_
      simp only [go_sem]
      exact fun ρ a w hs _ => ⟨by simp [SV.den, CV.den, h1], hs.grown⟩
  · simp only [go_sem, h0]
    refine sdraw0 [.t 0, .t 1, .t 2, .t 3, .t 4, .t 5, .t 6, .t 7] 8 rfl (by kernel_rfl) ?_
    simp only [go_sem]
    exact fun ρ a w hs _ => ⟨by simp [SV.den, CV.den, h0], hs.grown⟩
theorem rn_c (s : Stp) (w : World) : Calls Try.prog 42 #[s.val] w fun e w' => e = .returned (vu s.n) ∧ Below w.heap.size w w' := by
  obtain ⟨⟨a0, a1, a2, a3⟩, n⟩ := s
  refine calls_pure 8 _ Try.func42 rfl Try.ntmps42 Try.results42 [sst a0 a1 a2 a3 n] (by simp) (fun _ => rfl) ?_
  simp only [go_sem]
  refine scall_pure [V4.v ⟨a0, a1, a2, a3⟩, .int .i64 n] (.c (cu (V4.at ⟨a0, a1, a2, a3⟩ n))) (vu (V4.at ⟨a0, a1, a2, a3⟩ n)) Try.call44 (rat_c ⟨a0, a1, a2, a3⟩ n) rfl (fun _ => rfl) (fun _ => rfl) ?_
  simp only [go_sem]
  exact fun ρ a w hs _ => ⟨rfl, hs.grown⟩
theorem rseen_c (s : Stp) (at' : V4) (w : World) : Calls Try.prog 47 #[s.val, at'.v] w fun e w' => e = .returned (.bool (s.seen at')) ∧ Below w.heap.size w w' := by
  obtain ⟨⟨a0, a1, a2, a3⟩, n⟩ := s; obtain ⟨b0, b1, b2, b3⟩ := at'
  refine calls_pure 9 _ Try.func47 rfl Try.ntmps47 Try.results47 [sst a0 a1 a2 a3 n, sv4 b0 b1 b2 b3] (by simp) (fun _ => rfl) ?_
  simp only [go_sem]
  refine scall_pure [V4.v ⟨a0, a1, a2, a3⟩, V4.v ⟨b0, b1, b2, b3⟩] (.c (.v (.bool (V4.leq ⟨a0, a1, a2, a3⟩ ⟨b0, b1, b2, b3⟩)))) (.bool (V4.leq ⟨a0, a1, a2, a3⟩ ⟨b0, b1, b2, b3⟩)) Try.call73 (rleq_c _ _) rfl (fun _ => rfl) (fun _ => rfl) ?_
  simp only [go_sem]
  exact fun ρ a w hs _ => ⟨rfl, hs.grown⟩
theorem rsright_c (s : Stp) (w : World) : Calls Try.prog 54 #[s.val] w fun e w' => e = .returned (.bool s.right) ∧ Below w.heap.size w w' := by
  obtain ⟨⟨a0, a1, a2, a3⟩, n⟩ := s
  refine calls_pure 11 _ Try.func54 rfl Try.ntmps54 Try.results54 [sst a0 a1 a2 a3 n] (by simp) (fun _ => rfl) ?_
  obtain ⟨b, hb⟩ : ∃ b, V4.right ⟨a0, a1, a2, a3⟩ = b := ⟨_, rfl⟩
  obtain ⟨k, hk⟩ : ∃ k, Stp.n ⟨⟨a0, a1, a2, a3⟩, n⟩ = k := ⟨_, rfl⟩
  have e : Stp.right ⟨⟨a0, a1, a2, a3⟩, n⟩ = (b && decide (0 < k)) := by unfold Stp.right; rw [hk, hb]
  rw [e]
  simp only [go_sem]
  refine scall_pure [V4.v ⟨a0, a1, a2, a3⟩] (.c (.v (.bool b))) (.bool b) Try.call77 (fun w => by rw [← hb]; exact rright_c _ w) rfl (fun _ => rfl) (fun _ => rfl) ?_
  cases b
  · simp only [go_sem]
    exact fun ρ a w hs _ => ⟨rfl, hs.grown⟩
  · simp only [go_sem]
    refine scall_pure [Stp.val ⟨⟨a0, a1, a2, a3⟩, n⟩] (.c (cu k)) (vu k) Try.call42 (fun w => by rw [← hk]; exact rn_c _ w) rfl (fun _ => rfl) (fun _ => rfl) ?_
    simp only [go_sem]
    exact fun ρ a w hs _ => ⟨by simp [SV.den, CV.den]; omega, hs.grown⟩
def rlt (s t : Stp) : Bool := decide (s.v.sum < t.v.sum) || (decide (s.v.sum = t.v.sum) && (decide (s.dc < t.dc) || (decide (s.dc = t.dc) && s.v.less t.v)))
theorem less_vcmp (x y : V4) : x.less y = decide (vcmp x y < 0) := by
  unfold V4.less vcmp or2 cmpI
  rw [Bool.eq_iff_iff]
  by_cases h0 : x.a = y.a <;> by_cases h1 : x.b = y.b <;> by_cases h2 : x.c = y.c <;> by_cases h3 : x.d = y.d
  all_goals
    simp only [h0, h1, h2, h3, ne_eq, not_true_eq_false, not_false_eq_true, if_true, if_false, decide_eq_true_eq, Int.lt_irrefl]
    try omega
    try (split <;> (try split) <;> simp <;> omega)
    try simp
theorem vcmp_zero {x y : V4} (h : vcmp x y = 0) : x = y := by
  have := lexI_eq [x.a, x.b, x.c, x.d] [y.a, y.b, y.c, y.d] rfl (by simpa [lexI, vcmp, or2_z] using h)
  obtain ⟨a0, a1, a2, a3⟩ := x; obtain ⟨b0, b1, b2, b3⟩ := y
  simpa using this
theorem ord_ref (s t : Stp) (h : s ≠ t) : s.ord t = if rlt s t then -1 else 1 := by
  have h3 := ord_three s t
  have h0 : s.ord t ≠ 0 := fun e => h (ord_eq e)
  have key : rlt s t = decide (s.ord t < 0) := by
    unfold rlt Stp.ord
    rw [if_neg h, less_vcmp, Bool.eq_iff_iff]
    simp only [Bool.or_eq_true, Bool.and_eq_true, decide_eq_true_eq]
    unfold or2
    have k1 := cmpI_lt (x := s.v.sum) (y := t.v.sum)
    have k2 := cmpI_eq (x := s.v.sum) (y := t.v.sum)
    have k3 := cmpI_lt (x := s.dc) (y := t.dc)
    have k4 := cmpI_eq (x := s.dc) (y := t.dc)
    split <;> (try split) <;> omega
  rw [key]
  by_cases hn : s.ord t < 0
  · rw [if_pos (by simpa using hn)]; omega
  · rw [if_neg (by simpa using hn)]; omega
set_option maxHeartbeats 1000000 in
theorem rord_c (s t : Stp) (w : World) : Calls Try.prog 72 #[s.val, t.val] w fun e w' => e = .returned (.int .i64 (s.ord t)) ∧ Below w.heap.size w w' := by
  have hdec := stp_dec s t
  have hor := ord_ref s t
  have hself : s = t → s.ord t = 0 := fun h => by rw [h]; exact ord_self t
  obtain ⟨⟨a0, a1, a2, a3⟩, n⟩ := s; obtain ⟨⟨b0, b1, b2, b3⟩, m⟩ := t
  refine calls_pure 45 _ Try.func72 rfl Try.ntmps72 Try.results72 [sst a0 a1 a2 a3 n, sst b0 b1 b2 b3 m] (by simp) (fun _ => rfl) ?_
  by_cases he : (⟨⟨a0, a1, a2, a3⟩, n⟩ : Stp) = ⟨⟨b0, b1, b2, b3⟩, m⟩
  · have hs := hself he
    rw [hs]
    rw [decide_eq_true he] at hdec
    dsimp only at hdec
    simp only [go_sem, hdec]
    exact fun ρ a w hs _ => ⟨rfl, hs.grown⟩
  · rw [hor he]
    rw [decide_eq_false he] at hdec
    dsimp only at hdec
    obtain ⟨x, hx⟩ : ∃ x, V4.sum ⟨a0, a1, a2, a3⟩ = x := ⟨_, rfl⟩
    obtain ⟨y, hy⟩ : ∃ y, V4.sum ⟨b0, b1, b2, b3⟩ = y := ⟨_, rfl⟩
    obtain ⟨l, hl⟩ : ∃ l, V4.less ⟨a0, a1, a2, a3⟩ ⟨b0, b1, b2, b3⟩ = l := ⟨_, rfl⟩
    unfold rlt
    dsimp only
    rw [hx, hy, hl]
    simp only [go_sem, hdec]
    refine scall_pure [V4.v ⟨a0, a1, a2, a3⟩] (.c (cu x)) (vu x) Try.call89 (fun w => by rw [← hx]; exact rsum_c _ w) rfl (fun _ => rfl) (fun _ => rfl) ?_
    simp only [go_sem]
    refine scall_pure [V4.v ⟨b0, b1, b2, b3⟩] (.c (cu y)) (vu y) Try.call89 (fun w => by rw [← hy]; exact rsum_c _ w) rfl (fun _ => rfl) (fun _ => rfl) ?_
    cases c1 : decide (x < y)
    · cases c2 : decide (x = y)
      · simp only [go_sem, c1, c2]
        exact fun ρ a w hs _ => ⟨rfl, hs.grown⟩
      · cases c3 : decide (n < m)
        · cases c4 : decide (n = m)
          · simp only [go_sem, c1, c2, c3, c4]
            exact fun ρ a w hs _ => ⟨rfl, hs.grown⟩
          · simp only [go_sem, c1, c2, c3, c4]
            refine scall_pure [V4.v ⟨a0, a1, a2, a3⟩, V4.v ⟨b0, b1, b2, b3⟩] (.c (.v (.bool l))) (.bool l) Try.call90 (fun w => by rw [← hl]; exact rless_c _ _ w) rfl (fun _ => rfl) (fun _ => rfl) ?_
            cases l
            · simp only [go_sem]
              exact fun ρ a w hs _ => ⟨rfl, hs.grown⟩
            · simp only [go_sem]
              exact fun ρ a w hs _ => ⟨rfl, hs.grown⟩
        · simp only [go_sem, c1, c2, c3]
          exact fun ρ a w hs _ => ⟨rfl, hs.grown⟩
    · simp only [go_sem, c1]
      exact fun ρ a w hs _ => ⟨rfl, hs.grown⟩
section
variable {C : Cx} {fr : List (Nat × SV)} {hp : List (Nat × Blk)} {nx : Nat} {d : Option Tmp} {K : St → Prop}
theorem rord_s {x y : Stp} (h : dOk C.N d ∧ kput K ⟨fr, hp, nx⟩ d (.c (ci (x.ord y)))) : SCall Try.prog C 72 [sst x.v.a x.v.b x.v.c x.v.d x.dc, sst y.v.a y.v.b y.v.c y.v.d y.dc] d K ⟨fr, hp, nx⟩ :=
  scall_pure [x.val, y.val] _ _ Try.call72 (rord_c x y) rfl (fun _ => rfl) (fun _ => rfl) h
theorem rseen_s {x : Stp} {h : V4} (hk : dOk C.N d ∧ kput K ⟨fr, hp, nx⟩ d (.c (.v (.bool (x.seen h))))) : SCall Try.prog C 47 [sst x.v.a x.v.b x.v.c x.v.d x.dc, sv4 h.a h.b h.c h.d] d K ⟨fr, hp, nx⟩ :=
  scall_pure [x.val, h.v] _ _ Try.call47 (rseen_c x h) rfl (fun _ => rfl) (fun _ => rfl) hk
theorem rsright_s {x : Stp} (hk : dOk C.N d ∧ kput K ⟨fr, hp, nx⟩ d (.c (.v (.bool x.right)))) : SCall Try.prog C 54 [sst x.v.a x.v.b x.v.c x.v.d x.dc] d K ⟨fr, hp, nx⟩ :=
  scall_pure [x.val] _ _ Try.call54 (rsright_c x) rfl (fun _ => rfl) (fun _ => rfl) hk
end
end Go.Proofs.Ytagjblkfgjcmnaa
namespace Go.Proofs.Ytagjblkfgjcmnaa
open Go.RowKit Go.Sx
attribute [local go_sem ↓] reduceIte
attribute [local go_sem] Nat.reduceEqDiff Nat.reduceLT Nat.reduceLeDiff Nat.reduceAdd Nat.reduceMul Nat.reduceSub Nat.reduceDiv Nat.reduceMod Int.reduceToNat Int.reduceLT Int.reduceLE Int.reduceAdd Int.reduceSub Int.reduceMul Int.reduceEq Int.reduceNeg reduceCtorEq or_false false_or decide_true decide_false Int.cast_ofNat_Int Nat.zero_add Nat.add_zero Int.toNat_natCast Option.isNone_none Option.isNone_some Bool.not_true Bool.not_false Bool.xor_true Bool.xor_false Bool.true_xor Bool.false_xor Bool.and_true Bool.true_and Bool.and_false Bool.false_and eq_self ne_eq not_false_eq_true not_true_eq_false true_and and_true and_self
theorem baN (s : ByteArray) : s = ⟨#[]⟩ ↔ s.size = 0 := ⟨fun h => by rw [h]; rfl, fun h => ByteArray.ext (Array.eq_empty_of_size_eq_zero h)⟩
set_option maxHeartbeats 1000000 in
set_option maxRecDepth 100000 in
theorem r8right_c (x : Wr) (w : World) : Calls Try.prog 55 #[x.val] w fun e w' => e = .returned (.bool x.right) ∧ Below w.heap.size w w' := by
  obtain ⟨b, k, v, g⟩ := x
  refine calls_pure 41 _ Try.func55 rfl Try.ntmps55 Try.results55 [.agg [.v (.string b), .v (.string k), .v (.string v), .v (.bool g)]] (by simp) (fun _ => rfl) ?_
  obtain ⟨c0, c1, c2, c3, c4, c5, d0, d1, d2, d3, d4, d5⟩ : ∃ c0 c1 c2 c3 c4 c5, decide ((1 : Int) ≤ b.size) = c0 ∧ decide ((b.size : Int) ≤ 16) = c1 ∧ decide ((1 : Int) ≤ k.size) = c2 ∧ decide ((k.size : Int) ≤ 16) = c3 ∧ decide ((v.size : Int) ≤ 32) = c4 ∧ decide (v = ⟨#[]⟩) = c5 := ⟨_, _, _, _, _, _, rfl, rfl, rfl, rfl, rfl, rfl⟩
  have h : Wr.right ⟨b, k, v, g⟩ = (c0 && (c1 && (c2 && (c3 && (c4 && (!g || c5)))))) := by
    have hb : ∀ s : ByteArray, (!decide (s = (⟨#[]⟩ : ByteArray))) = decide ((1 : Int) ≤ s.size) := fun s => by
      rw [← decide_not]; exact decide_eq_decide.2 (by rw [baN]; omega)
    simp only [Wr.right, nmd, hb, d0, d1, d2, d3, d4, d5]
    cases g <;> simp [Bool.and_assoc]
  rw [h]
  cases c0
  · simp only [go_sem, d0, d1, d2, d3, d4, d5]
    exact fun ρ a w hs _ => ⟨rfl, hs.grown⟩
  · cases c1
    · simp only [go_sem, d0, d1, d2, d3, d4, d5]
      exact fun ρ a w hs _ => ⟨rfl, hs.grown⟩
    · cases c2
      · simp only [go_sem, d0, d1, d2, d3, d4, d5]
        exact fun ρ a w hs _ => ⟨rfl, hs.grown⟩
      · cases c3
        · simp only [go_sem, d0, d1, d2, d3, d4, d5]
          exact fun ρ a w hs _ => ⟨rfl, hs.grown⟩
        · cases c4
          · simp only [go_sem, d0, d1, d2, d3, d4, d5]
            exact fun ρ a w hs _ => ⟨rfl, hs.grown⟩
          · cases g
            · simp only [go_sem, d0, d1, d2, d3, d4, d5]
              exact fun ρ a w hs _ => ⟨rfl, hs.grown⟩
            · cases c5
              all_goals
                simp only [go_sem, d0, d1, d2, d3, d4, d5]
                exact fun ρ a w hs _ => ⟨rfl, hs.grown⟩
section
variable {C : Cx} {fr : List (Nat × SV)} {hp : List (Nat × Blk)} {nx : Nat} {d : Option Tmp} {K : St → Prop}
theorem r8right_s (x : Wr) (h : dOk C.N d ∧ kput K ⟨fr, hp, nx⟩ d (.c (.v (.bool x.right)))) : SCall Try.prog C 55 [.agg x.c] d K ⟨fr, hp, nx⟩ :=
  scall_pure [x.val] _ (.bool x.right) Try.call55 (r8right_c x) rfl (fun _ => rfl) (fun _ => rfl) h
theorem wrw_app {ws : List Wr} {x : Wr} {i j : Nat} (hx : ws[i]? = some x) (hj : j < i) : wrw (ws.take (i + 1)) j = wrw (ws.take i) j := by
  unfold wrw
  rw [List.getElem?_take, List.getElem?_take, if_pos (by omega), if_pos hj]
theorem wrw_lst {ws : List Wr} {x : Wr} {i : Nat} (hx : ws[i]? = some x) : wrw (ws.take (i + 1)) i = x.l := by
  unfold wrw
  rw [List.getElem?_take, if_pos (by omega), hx]; rfl
def WRow (hp : List (Nat × Blk)) (ws : List Wr) (x : CV) : Prop := ∃ m o c, x = .s m o ws.length c ∧ 0 < ws.length ∧
  ((∃ k cb r, hget hp m = some (.rows 42 4 k cb r) ∧ o + ws.length ≤ k ∧ ∀ i, i < ws.length → r (o + i) = (wrw ws i).map .v) ∨
   ∃ k r, hget hp m = some (.imm 4 k r) ∧ o + ws.length ≤ k ∧ ∀ i, i < ws.length → r (o + i) = (wrw ws i).map .v)
set_option maxHeartbeats 4000000 in
set_option maxRecDepth 100000 in
theorem refw_s {x : CV} {ws : List Wr} (hw : WRow hp ws x) (hlen : ws.length ≤ 1000) (hd : dOk C.N d)
    (hK : ∀ n c nx', (nx ≤ n ∧ n < nx') ∧ ws.length ≤ c → kput K ⟨fr, (n, .rows 71 4 ws.length c fun i => (wrw ws i).map .v) :: hp, nx'⟩ d (.c (.s n 0 ws.length c))) : SCall Try.prog C 21 [.c x] d K ⟨fr, hp, nx⟩ := by
  have hrow : ∀ i y, ws[i]? = some y → (wrw ws i).map CV.v = y.c := fun i y h => by rw [wrw_eq h]; rfl
  obtain ⟨m, o, c, rfl, hpos, hcase⟩ := hw
  refine scall_names rfl fun hnm honce => ?_
  refine scall_in 36 _ Try.func21 rfl Try.ntmps21 Try.results21 Try.call21 (by simp only [go_sem, hd]) (fun _ _ => ?_)
  simp only [go_sem]
  refine sloop (fun p : Nat × Nat × Nat × CV × Blk => ⟨[(4, .c (ci p.1)), (3, .c p.2.2.2.1), (0, .c (.s m o ws.length c))], (p.2.1, p.2.2.2.2) :: hp, p.2.2.1⟩) (fun p => p.1 ≤ ws.length ∧ (nx ≤ p.2.1 ∧ p.2.1 < p.2.2.1) ∧ SL p.2.1 71 4 (wrw (ws.take p.1)) p.1 p.2.2.2.1 p.2.2.2.2) (fun p => ws.length - p.1) (0, nx, nx + 1, .v (.slice none 0 0), .pred [] fun _ => True)
    ⟨Nat.zero_le _, ⟨Nat.le_refl _, Nat.lt_succ_self _⟩, SL.nil⟩ (ent_none ⟨rfl, rfl, rfl, trivial⟩ (hpSub_self honce) honce) (fun p hp => ?_)
  obtain ⟨i, T, NX, ov, ob⟩ := p
  obtain ⟨hi, ⟨hT, hTN⟩, hS⟩ : i ≤ ws.length ∧ (nx ≤ T ∧ T < NX) ∧ SL T 71 4 (wrw (ws.take i)) i ov ob := hp
  dsimp only
  have hok := hS.ok
  have hq : ∀ b : Blk, hrem hp NX = hp ∧ hrem hp T = hp := fun b => ⟨hrem_none fun m b hm => by have := hnm m b hm; omega, hrem_none fun m b hm => by have := hnm m b hm; omega⟩
  obtain ⟨hq1, hq2⟩ := hq (.obj (.cells #[] 0 (0, 0)))
  rcases Nat.lt_or_ge i ws.length with hil | hil
  · obtain ⟨y, hy⟩ : ∃ y, ws[i]? = some y := ⟨_, List.getElem?_eq_getElem hil⟩
    have hr0 := hrow i y hy
    rcases hcase with ⟨k, cb, r, h, hk, hr⟩ | ⟨k, r, h, hk, hr⟩
    all_goals
      have hlm := hget_lt hnm h
      have hr1 := hr i hil
      rw [hr0] at hr1
      simp (disch := omega) only [go_sem, wrapI64, wrapu64, wrapu32, wrapu8, ltT, ltF, leT, leF, eqF, eqT, nltT, nleT, neqFn, h, hr1]
      refine sdraw [.t 0, .t 1, .t 2, .t 3, .t 4, .t 5, .t 6, .t 7, .t 8, .t 9, .t 10, .t 11, .t 12, .t 13, .t 14, .t 15, .t 16, .t 17, .t 18, .t 19, .t 20, .t 21, .r 22, .r 23, .t 24] 25 [(m, _)] rfl (by kernel_rfl) ⟨by rw [hget_cons, if_neg (by omega)]; exact h, trivial⟩ ?_
      simp (disch := omega) only [go_sem, wrapI64, wrapu64, wrapu32, wrapu8, ltT, ltF, leT, leF, eqF, eqT, nltT, nleT, neqFn, h, hr1, hok]
      refine sappendSL T (wrw (ws.take (i + 1))) rfl rfl tkind63 tsz71 tby71 tz71 hS (by rw [hget_cons, if_neg (by omega), hget_cons, if_pos rfl]) (by omega) (by rw [hget_cons, if_pos rfl]; rfl) ⟨⟨rfl, by decide, by decide⟩, by decide, by omega, by omega⟩ (fun j hj => wrw_app hy hj) (fun j hj => by
        have : j = 0 := by omega
        subst this; simp only [Nat.add_zero]; rw [wrw_lst hy]; rfl) (fun j hj => by
        have : j = 0 := by omega
        subst this; simp only [Nat.add_zero]; rw [wrw_lst hy]; rfl) ⟨by show (34 : Nat) < 36; omega, fun c' hc' => ?_⟩
      rw [hrem, if_neg (by omega), hrem, if_pos rfl, hq2]
      simp (disch := omega) only [go_sem, wrapI64, wrapu64, wrapu32, wrapu8, ltT, ltF, leT, leF, eqF, eqT, nltT, nleT, neqFn, h]
      refine ⟨(i + 1, NX + 1, NX + 2, .s (NX + 1) 0 (i + 1) c', .rows 71 4 (i + 1) c' fun j => (wrw (ws.take (i + 1)) j).map .v), ⟨hil, ⟨by show nx ≤ NX + 1; omega, by show NX + 1 < NX + 2; omega⟩, .inr ⟨c', ⟨hc', Nat.succ_pos _⟩, rfl, rfl⟩⟩, by show ws.length - (i + 1) < ws.length - i; omega, Ent.trans (ent_rem NX) ?_⟩
      rw [hrem, if_neg (by omega), hrem, if_pos rfl, hq1]
      exact ent_fr ⟨rfl, rfl, rfl, trivial⟩
  · have : i = ws.length := by omega
    subst this
    rw [List.take_length] at hS
    rcases hS with ⟨h0, _⟩ | ⟨c', hc', rfl, rfl⟩
    · omega
    rcases hcase with ⟨k, cb, r, h, hk, hr⟩ | ⟨k, r, h, hk, hr⟩
    all_goals
      simp (disch := omega) only [go_sem, wrapI64, wrapu64, wrapu32, wrapu8, ltT, ltF, leT, leF, eqF, eqT, nltT, nleT, neqFn]
      exact hK T c' NX ⟨⟨hT, hTN⟩, hc'.1⟩
theorem refw0_s (hd : dOk C.N d) (hK : kput K ⟨fr, hp, nx⟩ d (.c (.v (.slice none 0 0)))) : SCall Try.prog C 21 [.c (.v (.slice none 0 0))] d K ⟨fr, hp, nx⟩ := by
  refine scall_in 36 _ Try.func21 rfl Try.ntmps21 Try.results21 Try.call21 (by simp only [go_sem, hd]) (fun _ _ => ?_)
  simp only [go_sem]
  refine sloop_rounds 1 ?_
  simp only [go_sem]
  exact hK
end
end Go.Proofs.Ytagjblkfgjcmnaa
namespace Go.Proofs.Ytagjblkfgjcmnaa
open Go.RowKit Go.Sx CW
def BatQ (x : BatA) (fp : List Nat) (w : World) : Prop := if x.ws.length = 0 then fp = [] else fp = [x.b] ∧ x.ws.length ≤ x.c ∧ RowsAt w x.b 71 4 x.ws.length x.c (wrw x.ws)
theorem BatQ.stable (x : BatA) (fp : List Nat) : Stable fp (BatQ x fp) := fun w w' h hs => by
  unfold BatQ at h ⊢
  split
  · next h0 => rw [if_pos h0] at h; exact h
  · next h0 =>
    rw [if_neg h0] at h
    obtain ⟨rfl, h1, h2⟩ := h
    exact ⟨rfl, h1, h2.same (hs x.b (by simp))⟩
def BatA.l (x : BatA) : List Value := [vu x.st.v.a, vu x.st.v.b, vu x.st.v.c, vu x.st.v.d, .int .i64 x.st.dc, slb x.ws.length x.b x.c]
abbrev none0 : Blk := .pred [] fun _ => True
def LV (l : List Ver) (lv : CV) (lb : Blk) : Prop := (l = [] ∧ lv = .v (.slice none 0 0) ∧ lb = none0) ∨
  ∃ c, (l.length ≤ c ∧ 0 < l.length) ∧ lv = .s 1 0 l.length c ∧ lb = .rows 111 9 l.length c fun j => (vrow l j).map .v
def WV (its : List BatA) (wv : CV) (wb : Blk) : Prop := (its = [] ∧ wv = .v (.slice none 0 0) ∧ wb = none0) ∨
  ∃ (o c m cb : Nat) (rv : Nat → List Value), (its.length ≤ c ∧ o + its.length ≤ m) ∧ (∀ i x, its[i]? = some x → rv (o + i) = BatA.l x) ∧ wv = .s 2 o its.length c ∧ wb = .rows 108 6 m cb fun j => (rv j).map .v
abbrev rsO (s : ShS) (wv lv : CV) : Blk := .cells 78 [ci s.room, wv, lv, cu s.ap.a, cu s.ap.b, cu s.ap.c, cu s.ap.d]
def RSd (s : ShS) (nx : Nat) (hp : List (Nat × Blk)) : Prop := nx = 4 ∧ ∃ lv lb wv wb its fpb, LV s.l lv lb ∧ WV its wv wb ∧ its.map BatA.bat = s.w ∧
  hp = [(0, rsO s wv lv), (1, lb), (2, wb), (3, .pred fpb (All BatQ its fpb))]
theorem rsd_cell (s : ShS) : Cell0 (RSd s) := fun nx hp h => by
  obtain ⟨_, lv, lb, wv, wb, its, fpb, _, _, _, rfl⟩ := h
  exact ⟨_, _, rfl⟩
theorem LV.blk {l : List Ver} {lv : CV} {lb : Blk} (h : LV l lv lb) : CV.bl 4 lv ∧ lb.bl 4 ∧ lb.solid = true ∧ (∀ f : Nat → Nat, lb.rn f = lb) ∧ ∀ f : Nat → Nat, f 1 = 1 → lv.rn f = lv := by
  rcases h with ⟨_, rfl, rfl⟩ | ⟨c, _, rfl, rfl⟩
  · exact ⟨trivial, trivial, rfl, fun _ => rfl, fun _ _ => rfl⟩
  · exact ⟨by show 1 < 4; omega, fun j _ => blL_v _ _, rfl, fun f => by simp [Blk.rn, rnL_v], fun f h => by simp [CV.rn, h]⟩
theorem WV.blk {l : List BatA} {lv : CV} {lb : Blk} (h : WV l lv lb) : CV.bl 4 lv ∧ lb.bl 4 ∧ lb.solid = true ∧ (∀ f : Nat → Nat, lb.rn f = lb) ∧ ∀ f : Nat → Nat, f 2 = 2 → lv.rn f = lv := by
  rcases h with ⟨_, rfl, rfl⟩ | ⟨o, c, m, cb, rv, _, _, rfl, rfl⟩
  · exact ⟨trivial, trivial, rfl, fun _ => rfl, fun _ _ => rfl⟩
  · exact ⟨by show 2 < 4; omega, fun j _ => blL_v _ _, rfl, fun f => by simp [Blk.rn, rnL_v], fun f h => by simp [CV.rn, h]⟩
theorem rsd_ent {hp : List (Nat × Blk)} (s : ShS) (f : Nat → Nat) {its : List BatA} {lv wv : CV} {lb wb : Blk} {fpb : List Nat} (hl : LV s.l lv lb) (hW : WV its wv wb)
    (h0 : hget hp (f 0) = some (rsO s (wv.rn f) (lv.rn f))) (h1 : hget hp (f 1) = some lb) (h2 : hget hp (f 2) = some wb) (h3 : hget hp (f 3) = some (.pred fpb (All BatQ its fpb))) : hpEnt f 4 hp [(0, rsO s wv lv), (1, lb), (2, wb), (3, .pred fpb (All BatQ its fpb))] :=
  ⟨⟨by omega, ⟨trivial, hW.blk.1, hl.blk.1, trivial, trivial, trivial, trivial, trivial⟩, h0⟩, ⟨by omega, hl.blk.2.1, h1.trans (congrArg some (hl.blk.2.2.2.1 f).symm)⟩, ⟨by omega, hW.blk.2.1, h2.trans (congrArg some (hW.blk.2.2.2.1 f).symm)⟩, ⟨by omega, trivial, h3⟩, trivial⟩
theorem rsd_sol (s : ShS) {its : List BatA} {lv wv : CV} {lb wb : Blk} {fpb : List Nat} (hl : LV s.l lv lb) (hW : WV its wv wb) : [(0, rsO s wv lv), (1, lb), (2, wb), (3, Blk.pred fpb (All BatQ its fpb))].all (fun x => x.2.solid) = true := by
  show (true && (lb.solid && (wb.solid && (true && true)))) = true
  rw [hl.blk.2.2.1, hW.blk.2.2.1]; rfl
theorem rsd_end {C : Cx} {fp : List Nat} {w w' : World} {fr : List (Nat × SV)} {hp : List (Nat × Blk)} {nx : Nat} {ρ : Env} {a : Act} {g : Nat} (s : ShS) (f : Nat → Nat) (hw : C.w0 = w) (hM : C.M = (· ∈ fp)) (hs : Sat C ⟨fr, hp, nx⟩ ρ a w') (hg : (ρ (f 0)).blk = g) (hb : (ρ (f 0)).base = 0)
    {its : List BatA} {lv wv : CV} {lb wb : Blk} {fpb : List Nat} (hl : LV s.l lv lb) (hW : WV its wv wb) (hi : its.map BatA.bat = s.w) (hf : [f 0, f 1, f 2, f 3].Nodup)
    (h0 : hget hp (f 0) = some (rsO s (wv.rn f) (lv.rn f))) (h1 : hget hp (f 1) = some lb) (h2 : hget hp (f 2) = some wb) (h3 : hget hp (f 3) = some (.pred fpb (All BatQ its fpb))) : ∃ fp', On g (RSd s) fp' w' ∧ Chg fp fp' w w' :=
  on_ends (Sh := RSd s) (g := g) hw hM hs f (nx' := 4) (hp' := [(0, rsO s wv lv), (1, lb), (2, wb), (3, .pred fpb (All BatQ its fpb))]) (rsd_ent s f hl hW h0 h1 h2 h3) hf (rsd_sol s hl hW) ⟨rfl, lv, lb, wv, wb, its, fpb, hl, hW, hi, rfl⟩ hg hb (by omega)
end Go.Proofs.Ytagjblkfgjcmnaa
namespace Go.Proofs.Ytagjblkfgjcmnaa
open Go.RowKit Go.Sx CW
attribute [local go_sem ↓] reduceIte
attribute [local go_sem] Nat.reduceEqDiff Nat.reduceLT Nat.reduceLeDiff Nat.reduceAdd Nat.reduceMul Nat.reduceSub Nat.reduceDiv Nat.reduceMod Int.reduceToNat Int.reduceLT Int.reduceLE Int.reduceAdd Int.reduceSub Int.reduceMul Int.reduceEq Int.reduceNeg reduceCtorEq or_false false_or decide_true decide_false Int.cast_ofNat_Int Nat.zero_add Nat.add_zero Int.toNat_natCast Option.isNone_none Option.isNone_some Bool.not_true Bool.not_false Bool.xor_true Bool.xor_false Bool.true_xor Bool.false_xor Bool.and_true Bool.true_and Bool.and_false Bool.false_and eq_self ne_eq not_false_eq_true not_true_eq_false true_and and_true and_self

theorem addV_any {l : List Ver} (h : WfL l) {st : Stp} (hr : st.right = true) (x : Wr) : addV st l x = if l.any (fun v => decide (Ver.ky v = x.kk ∧ v.st = st)) then l else l ++ [⟨st, x⟩] := by
  unfold addV
  rw [insB_of h, hr, Bool.true_and]
  cases l.any fun v => decide (Ver.ky v = x.kk ∧ v.st = st) <;> rfl
theorem LV.len {l : List Ver} {lv : CV} {lb : Blk} (h : LV l lv lb) : ∀ ρ : Env, True := fun _ => trivial
set_option maxHeartbeats 2000000 in
set_option maxRecDepth 100000 in
theorem rdadd_c (g : Nat) (s : ShS) (hwf : WfL s.l) (hl : s.l.length ≤ 100000) (st : Stp) (x : Wr) (hr : st.right = true) (fp : List Nat) (w : World) (h : On g (RSd s) fp w) :
    Calls Try.prog 41 #[gptr g, (⟨st, x⟩ : Ver).val] w (Turn g fp (.tuple #[]) (RSd { s with l := addV st s.l x }) w) := by
  refine on_calls h 65 _ Try.func41 rfl Try.ntmps41 Try.results41 [.c (.p 0 0 0), .agg (⟨st, x⟩ : Ver).c] (by simp) (fun ρ' h1 h2 => by simp [SV.denL, SV.den, CV.den, CV.denL, gptr, h1, h2, Ver.val, Ver.l, Ver.c]) (fun ρ nx hp hsh hg hb => ?_)
  obtain ⟨rfl, lv, lb, wv, wb, its, fpb, hL, hW, hi, rfl⟩ := hsh
  have hadd := addV_any hwf hr x
  rcases hL with ⟨hn, rfl, rfl⟩ | ⟨c, ⟨hc, hc0⟩, rfl, rfl⟩
  · simp only [go_sem, Ver.c, rsO]
    refine sloop (fun _ : Unit => ⟨[(4, .c (ci 0)), (3, .c (.p 4 0 0)), (0, .c (.p 0 0 0))], [(4, .cells 111 (⟨st, x⟩ : Ver).c), (0, rsO s wv (.v (.slice none 0 0))), (1, none0), (2, wb), (3, .pred fpb (All BatQ its fpb))], 5⟩) (fun _ => True) (fun _ => 0) () trivial (ent_drop ⟨rfl, rfl, rfl, trivial⟩ ⟨rfl, rfl, rfl, rfl, rfl, trivial⟩ (by simp)) (fun _ _ => ?_)
    simp (disch := omega) only [go_sem, wrapI64, wrapu64, wrapu32, wrapu8, ltT, ltF, leT, leF, eqF, eqT, nltT, nleT, neqFn, Ver.c, rsO]
    refine sdraw [.t 0, .t 1, .t 2, .t 3, .t 4, .t 5, .r 6, .r 7, .t 8, .t 9, .r 10] 10 [(4, _), (0, _)] rfl (by kernel_rfl) ⟨rfl, rfl, trivial⟩ ?_
    simp (disch := omega) only [go_sem, wrapI64, wrapu64, wrapu32, wrapu8, ltT, ltF, leT, leF, eqF, eqT, nltT, nleT, neqFn, Ver.c, rsO]
    refine sappend_nil rfl rfl tkind76 tsz111 tby111 tz111 rfl ⟨⟨rfl, by decide, by decide⟩, by decide, by decide, by decide⟩ ⟨by show (62 : Nat) < 65; omega, fun c' hc' => ?_⟩
    simp (disch := omega) only [go_sem, wrapI64, wrapu64, wrapu32, wrapu8, ltT, ltF, leT, leF, eqF, eqT, nltT, nleT, neqFn]
    have hadd : addV st s.l x = s.l ++ [⟨st, x⟩] := by rw [hadd, hn]; rfl
    have h0 : s.l.length = 0 := by rw [hn]; rfl
    have hlen : (s.l ++ [(⟨st, x⟩ : Ver)]).length = s.l.length + 1 := by simp
    refine fun ρ' a w' hs' hag => ?_
    obtain ⟨ρ2, hs2, hρ2⟩ := ent_rows_le (m' := (s.l ++ [(⟨st, x⟩ : Ver)]).length) (r' := fun j => (vrow (s.l ++ [(⟨st, x⟩ : Ver)]) j).map .v) 6 rfl (by rw [hlen]; omega) (fun j hj => by
      have : j = 0 := by rw [hlen] at hj; omega
      subst this
      rw [hn]; rfl) ρ' a w' hs'
    · have e0 := (hρ2 0 (by show 0 < 4; omega)).trans (hag 0 (by show 0 < 4; omega))
      obtain ⟨fp', hon, hch⟩ := rsd_end { s with l := addV st s.l x } (fun k => if k = 1 then 6 else k) rfl rfl hs2 ((congrArg Nm.blk e0).trans hg) ((congrArg Nm.base e0).trans hb) (lv := .s 1 0 (s.l ++ [(⟨st, x⟩ : Ver)]).length c') (lb := .rows 111 9 (s.l ++ [(⟨st, x⟩ : Ver)]).length c' fun j => (vrow (s.l ++ [(⟨st, x⟩ : Ver)]) j).map .v) (by show LV (addV st s.l x) _ _; rw [hadd]; exact .inr ⟨c', ⟨by rw [hlen]; omega, by rw [hlen]; omega⟩, rfl, rfl⟩) hW hi (by simp) (by rw [hW.blk.2.2.2.2 _ rfl]; show _ = some (rsO _ wv (.s 6 0 (s.l ++ [(⟨st, x⟩ : Ver)]).length c')); rw [hlen, h0]; rfl) rfl rfl rfl
      exact ⟨fp', rfl, hon, hch⟩
  · simp only [go_sem, Ver.c, rsO]
    refine sloop (fun k : Nat => ⟨[(4, .c (ci k)), (3, .c (.p 4 0 0)), (0, .c (.p 0 0 0))], [(4, .cells 111 (⟨st, x⟩ : Ver).c), (0, rsO s wv (.s 1 0 s.l.length c)), (1, .rows 111 9 s.l.length c fun j => (vrow s.l j).map .v), (2, wb), (3, .pred fpb (All BatQ its fpb))], 5⟩) (fun k => k ≤ s.l.length ∧ ∀ q : Nat, q < k → ∀ y : Ver, s.l[q]? = some y → ¬ (Ver.ky y = x.kk ∧ y.st = st)) (fun k => s.l.length - k) 0 ⟨Nat.zero_le _, fun q hq => by omega⟩ (ent_drop ⟨rfl, rfl, rfl, trivial⟩ ⟨rfl, rfl, rfl, rfl, rfl, trivial⟩ (by simp)) (fun k hk => ?_)
    obtain ⟨hk, hlo⟩ : k ≤ s.l.length ∧ ∀ q : Nat, q < k → ∀ y : Ver, s.l[q]? = some y → ¬ (Ver.ky y = x.kk ∧ y.st = st) := hk
    rcases Nat.lt_or_ge k s.l.length with hkl | hkl
    · obtain ⟨y, hy⟩ : ∃ y, s.l[k]? = some y := ⟨_, List.getElem?_eq_getElem hkl⟩
      have hrow := vrow_eq hy
      have hdec := stp_dec y.st st
      cases he : decide (y.st = st) <;> cases hbb : decide (y.x.b = x.b) <;> cases hkk : decide (y.x.k = x.k) <;> rw [he] at hdec
      case true.true.true =>
        have hany : s.l.any (fun v => decide (Ver.ky v = x.kk ∧ v.st = st)) = true := List.any_eq_true.2 ⟨y, List.mem_of_getElem? hy, by
          rw [decide_eq_true_eq] at he hbb hkk ⊢
          exact ⟨by show (y.x.b, y.x.k) = (x.b, x.k); rw [hbb, hkk], he⟩⟩
        rw [hany] at hadd
        simp (disch := omega) only [go_sem, wrapI64, wrapu64, wrapu32, wrapu8, ltT, ltF, leT, leF, eqF, eqT, nltT, nleT, neqFn, Ver.c, rsO]
        refine sdraw [.t 0, .t 1, .t 2, .t 3, .t 4, .t 5, .t 6, .t 7, .t 8, .t 9, .t 10, .t 11, .t 12, .t 13, .t 14, .t 15, .t 16, .t 17, .t 18, .t 19, .t 20, .t 21, .t 22, .t 23, .t 24, .t 25, .t 26, .t 27, .t 28, .t 29, .t 30, .t 31, .t 32, .t 33, .t 34, .t 35, .t 36, .t 37, .t 38, .t 39, .t 40] 41 [(4, _), (0, _), (1, _)] rfl (by kernel_rfl) ⟨rfl, rfl, rfl, trivial⟩ ?_
        simp (disch := omega) only [go_sem, wrapI64, wrapu64, wrapu32, wrapu8, ltT, ltF, leT, leF, eqF, eqT, nltT, nleT, neqFn, Ver.c, rsO, hrow, hdec, hbb, hkk]
        refine fun ρ' a w' hs' hag => ?_
        obtain ⟨fp', hon, hch⟩ := rsd_end { s with l := addV st s.l x } id rfl rfl hs' ((congrArg Nm.blk (hag 0 (by show 0 < 4; omega))).trans hg) ((congrArg Nm.base (hag 0 (by show 0 < 4; omega))).trans hb) (lv := .s 1 0 s.l.length c) (lb := .rows 111 9 s.l.length c fun j => (vrow s.l j).map .v) (by show LV (addV st s.l x) _ _; rw [hadd]; exact .inr ⟨c, ⟨hc, hc0⟩, rfl, rfl⟩) hW hi (by simp) (by rw [hW.blk.2.2.2.2 id rfl]; rfl) rfl rfl rfl
        exact ⟨fp', rfl, hon, hch⟩
      all_goals
        have hno : ¬ (Ver.ky y = x.kk ∧ y.st = st) := fun ⟨h1, h2⟩ => by
          injection h1 with h3 h4
          simp [h2, h3, h4] at he hbb hkk
        simp (disch := omega) only [go_sem, wrapI64, wrapu64, wrapu32, wrapu8, ltT, ltF, leT, leF, eqF, eqT, nltT, nleT, neqFn, Ver.c, rsO]
        refine sdraw [.t 0, .t 1, .t 2, .t 3, .t 4, .t 5, .t 6, .t 7, .t 8, .t 9, .t 10, .t 11, .t 12, .t 13, .t 14, .t 15, .t 16, .t 17, .t 18, .t 19, .t 20, .t 21, .t 22, .t 23, .t 24, .t 25, .t 26, .t 27, .t 28, .t 29, .t 30, .t 31, .t 32, .t 33, .t 34, .t 35, .t 36, .t 37, .t 38, .t 39, .t 40] 41 [(4, _), (0, _), (1, _)] rfl (by kernel_rfl) ⟨rfl, rfl, rfl, trivial⟩ ?_
        simp (disch := omega) only [go_sem, wrapI64, wrapu64, wrapu32, wrapu8, ltT, ltF, leT, leF, eqF, eqT, nltT, nleT, neqFn, Ver.c, rsO, hrow, hdec, hbb, hkk]
        refine ⟨k + 1, ⟨hkl, fun q hq z hz => ?_⟩, by omega, ent_drop ⟨rfl, rfl, rfl, trivial⟩ ⟨rfl, rfl, rfl, rfl, rfl, trivial⟩ (by simp)⟩
        rcases Nat.lt_or_ge q k with hqk | hqk
        · exact hlo q hqk z hz
        · have : q = k := by omega
          rw [this, hy] at hz; injection hz with hz; rw [← hz]; exact hno
    · have hkm : k = s.l.length := by omega
      subst hkm
      have hany : s.l.any (fun v => decide (Ver.ky v = x.kk ∧ v.st = st)) = false := by
        rw [List.any_eq_false]
        intro y hy hh
        obtain ⟨q, hq⟩ := List.mem_iff_getElem?.1 hy
        exact hlo q (List.getElem?_eq_some_iff.1 hq).1 y hq (of_decide_eq_true hh)
      have hadd : addV st s.l x = s.l ++ [⟨st, x⟩] := by rw [hadd, hany]; rfl
      have hlen : (s.l ++ [(⟨st, x⟩ : Ver)]).length = s.l.length + 1 := by simp
      simp (disch := omega) only [go_sem, wrapI64, wrapu64, wrapu32, wrapu8, ltT, ltF, leT, leF, eqF, eqT, nltT, nleT, neqFn, Ver.c, rsO]
      refine sdraw [.t 0, .t 1, .t 2, .t 3, .t 4, .t 5, .r 6, .r 7, .t 8, .t 9, .r 10] 10 [(4, _), (0, _)] rfl (by kernel_rfl) ⟨rfl, rfl, trivial⟩ ?_
      simp (disch := omega) only [go_sem, wrapI64, wrapu64, wrapu32, wrapu8, ltT, ltF, leT, leF, eqF, eqT, nltT, nleT, neqFn, Ver.c, rsO]
      refine sappend rfl rfl tkind76 tsz111 tby111 tz111 rfl rfl ⟨⟨rfl, by decide, by decide, Nat.le_refl _⟩, by decide, by omega, by omega⟩ (fun q hq => by
        have : q = 0 := by omega
        subst this; rfl) ⟨by show (62 : Nat) < 65; omega, fun c' hc' => ?_⟩
      simp (disch := omega) only [go_sem, wrapI64, wrapu64, wrapu32, wrapu8, ltT, ltF, leT, leF, eqF, eqT, nltT, nleT, neqFn]
      refine fun ρ' a w' hs' hag => ?_
      obtain ⟨ρ2, hs2, hρ2⟩ := ent_rows_le (m' := (s.l ++ [(⟨st, x⟩ : Ver)]).length) (r' := fun j => (vrow (s.l ++ [(⟨st, x⟩ : Ver)]) j).map .v) 6 rfl (by rw [hlen]; omega) (fun j hj => by
        show (vrow (s.l ++ [(⟨st, x⟩ : Ver)]) j).map .v = rapp _ s.l.length _ j
        unfold rapp
        have hj : j < s.l.length + 1 := by rw [hlen] at hj; exact hj
        by_cases hjl : j < s.l.length
        · rw [if_pos hjl]
          simp [vrow, List.getElem?_append_left hjl]
        · have : j = s.l.length := by omega
          subst this
          rw [if_neg hjl]
          simp [vrow, Ver.l, Ver.c]) ρ' a w' hs'
      · have e0 := (hρ2 0 (by show 0 < 4; omega)).trans (hag 0 (by show 0 < 4; omega))
        obtain ⟨fp', hon, hch⟩ := rsd_end { s with l := addV st s.l x } (fun k => if k = 1 then 6 else k) rfl rfl hs2 ((congrArg Nm.blk e0).trans hg) ((congrArg Nm.base e0).trans hb) (lv := .s 1 0 (s.l ++ [(⟨st, x⟩ : Ver)]).length c') (lb := .rows 111 9 (s.l ++ [(⟨st, x⟩ : Ver)]).length c' fun j => (vrow (s.l ++ [(⟨st, x⟩ : Ver)]) j).map .v) (by show LV (addV st s.l x) _ _; rw [hadd]; exact .inr ⟨c', ⟨by rw [hlen]; omega, by rw [hlen]; omega⟩, rfl, rfl⟩) hW hi (by simp) (by rw [hW.blk.2.2.2.2 _ rfl]; show _ = some (rsO _ wv (.s 6 0 (s.l ++ [(⟨st, x⟩ : Ver)]).length c')); rw [hlen]; rfl) rfl rfl rfl
        exact ⟨fp', rfl, hon, hch⟩
end Go.Proofs.Ytagjblkfgjcmnaa
namespace Go.Proofs.Ytagjblkfgjcmnaa
open Go.RowKit Go.Sx CW
attribute [local go_sem ↓] reduceIte
attribute [local go_sem] Nat.reduceEqDiff Nat.reduceLT Nat.reduceLeDiff Nat.reduceAdd Nat.reduceMul Nat.reduceSub Nat.reduceDiv Nat.reduceMod Int.reduceToNat Int.reduceLT Int.reduceLE Int.reduceAdd Int.reduceSub Int.reduceMul Int.reduceEq Int.reduceNeg reduceCtorEq or_false false_or decide_true decide_false Int.cast_ofNat_Int Nat.zero_add Nat.add_zero Int.toNat_natCast Option.isNone_none Option.isNone_some Bool.not_true Bool.not_false Bool.xor_true Bool.xor_false Bool.true_xor Bool.false_xor Bool.and_true Bool.true_and Bool.and_false Bool.false_and eq_self ne_eq not_false_eq_true not_true_eq_false true_and and_true and_self

def pickB (l : List Ver) (y : Ver) (i : Nat) : Option Nat → Option Nat
  | none => some i
  | some b => if 0 < y.st.ord (l.getD b ver0).st then some i else some b
def lasti (l : List Ver) (q : Ver → Bool) : Nat → Option Nat
  | 0 => none
  | i + 1 => match l[i]? with
    | none => lasti l q i
    | some y => if q y then pickB l y i (lasti l q i) else lasti l q i
def optI : Option Nat → Int
  | none => -1
  | some b => b
theorem lasti_lt (l : List Ver) (q : Ver → Bool) : ∀ (i b : Nat), lasti l q i = some b → b < i
  | 0, b, h => by cases h
  | i + 1, b, h => by
    have ih := lasti_lt l q i
    simp only [lasti] at h
    split at h
    · have := ih b h; omega
    · split at h
      · cases hl : lasti l q i with
        | none => rw [hl] at h; simp only [pickB] at h; injection h with h; omega
        | some b' =>
          have := ih b' hl
          rw [hl] at h; simp only [pickB] at h
          split at h <;> (injection h with h; omega)
      · have := ih b h; omega
theorem lasti_none (l : List Ver) (q : Ver → Bool) : ∀ i : Nat, i ≤ l.length → lasti l q i = none → ∀ j y, j < i → l[j]? = some y → q y = false
  | 0, _, _, j, y, hj, _ => by omega
  | i + 1, hi, h, j, y, hj, hy => by
    obtain ⟨z, hz⟩ : ∃ z, l[i]? = some z := ⟨_, List.getElem?_eq_getElem (by omega)⟩
    simp only [lasti, hz] at h
    by_cases hq : q z = true
    · rw [if_pos hq] at h
      cases hl : lasti l q i with
      | none => rw [hl] at h; cases h
      | some b => rw [hl] at h; simp only [pickB] at h; split at h <;> cases h
    · rw [if_neg hq] at h
      rcases Nat.lt_or_ge j i with hji | hji
      · exact lasti_none l q i (by omega) h j y hji hy
      · have : j = i := by omega
        rw [this, hz] at hy; injection hy with hy; rw [← hy]; simpa using hq
theorem lasti_some (l : List Ver) (q : Ver → Bool) : ∀ i : Nat, i ≤ l.length → ∀ b, lasti l q i = some b → ∃ x, l[b]? = some x ∧ q x = true ∧ ∀ j y, j < i → l[j]? = some y → q y = true → y.st.ord x.st ≤ 0
  | 0, _, b, h => by cases h
  | i + 1, hi, b, h => by
    have ih := lasti_some l q i (by omega)
    obtain ⟨z, hz⟩ : ∃ z, l[i]? = some z := ⟨_, List.getElem?_eq_getElem (by omega)⟩
    simp only [lasti, hz] at h
    by_cases hq : q z = true
    · rw [if_pos hq] at h
      cases hl : lasti l q i with
      | none =>
        rw [hl] at h; simp only [pickB] at h
        injection h with h
        subst h
        refine ⟨z, hz, hq, fun j y hj hy hqy => ?_⟩
        rcases Nat.lt_or_ge j i with hji | hji
        · have := lasti_none l q i (by omega) hl j y hji hy; rw [this] at hqy; cases hqy
        · have : j = i := by omega
          rw [this, hz] at hy; injection hy with hy; rw [← hy, ord_self]; omega
      | some b0 =>
        rw [hl] at h; simp only [pickB] at h
        obtain ⟨x, hx, hqx, hmax⟩ := ih b0 hl
        have hgd : l.getD b0 ver0 = x := by simp [List.getD_eq_getElem?_getD, hx]
        simp only [hgd] at h
        by_cases ho : 0 < z.st.ord x.st
        · rw [if_pos ho] at h
          injection h with h
          subst h
          refine ⟨z, hz, hq, fun j y hj hy hqy => ?_⟩
          rcases Nat.lt_or_ge j i with hji | hji
          · have h1 := hmax j y hji hy hqy
            have h2 := ord_neg z.st x.st
            exact ord_le_trans h1 (by omega)
          · have : j = i := by omega
            rw [this, hz] at hy; injection hy with hy; rw [← hy, ord_self]; omega
        · rw [if_neg ho] at h
          injection h with h
          subst h
          refine ⟨x, hx, hqx, fun j y hj hy hqy => ?_⟩
          rcases Nat.lt_or_ge j i with hji | hji
          · exact hmax j y hji hy hqy
          · have : j = i := by omega
            rw [this, hz] at hy; injection hy with hy; rw [← hy]; omega
    · rw [if_neg hq] at h
      obtain ⟨x, hx, hqx, hmax⟩ := ih b h
      refine ⟨x, hx, hqx, fun j y hj hy hqy => ?_⟩
      rcases Nat.lt_or_ge j i with hji | hji
      · exact hmax j y hji hy hqy
      · have : j = i := by omega
        rw [this, hz] at hy; injection hy with hy; rw [hy] at hq; exact absurd hqy hq
def cand (k : Ky) (p : Ver → Bool) (v : Ver) : Bool := decide (v.x.b = k.1) && (decide (v.x.k = k.2) && p v)
theorem cand_iff {k : Ky} {p : Ver → Bool} {v : Ver} : cand k p v = true ↔ Ver.ky v = k ∧ p v = true := by
  obtain ⟨k1, k2⟩ := k
  simp [cand, Ver.ky, and_assoc]
def lastAt (l : List Ver) (k : Ky) (p : Ver → Bool) : Option Nat := lasti l (cand k p) l.length
theorem lastAt_none {l : List Ver} (h : WfL l) {k : Ky} {p : Ver → Bool} (hn : lastAt l k p = none) : rdL (chn l k) p = none := by
  rw [rdL_eq]
  have : (chn l k).filter p = [] := by
    rw [List.filter_eq_nil_iff]
    intro v hv hp
    obtain ⟨h1, h2⟩ := (mem_chn h).1 hv
    obtain ⟨j, hj⟩ := List.mem_iff_getElem?.1 h1
    have := lasti_none l _ _ (Nat.le_refl _) hn j v (List.getElem?_eq_some_iff.1 hj).1 hj
    rw [cand_iff.2 ⟨h2, hp⟩] at this; cases this
  rw [this]; rfl
theorem lastAt_some {l : List Ver} (h : WfL l) {k : Ky} {p : Ver → Bool} {b : Nat} (hn : lastAt l k p = some b) : ∃ x, l[b]? = some x ∧ Ver.ky x = k ∧ rdL (chn l k) p = some x := by
  obtain ⟨x, hx, hq, hmax⟩ := lasti_some l _ _ (Nat.le_refl _) b hn
  obtain ⟨hk, hp⟩ := cand_iff.1 hq
  refine ⟨x, hx, hk, ?_⟩
  have hs : Srt ((chn l k).filter p) := (chn_srt l k).filter p
  have hm : x ∈ (chn l k).filter p := List.mem_filter.2 ⟨(mem_chn h).2 ⟨List.mem_of_getElem? hx, hk⟩, hp⟩
  rw [rdL_eq]
  cases hl : ((chn l k).filter p).getLast? with
  | none => rw [List.getLast?_eq_none_iff.1 hl] at hm; cases hm
  | some y =>
    have h1 := hs.le_last hl hm
    have hy := List.mem_of_getLast? hl
    obtain ⟨hy1, hy2⟩ := List.mem_filter.1 hy
    obtain ⟨hy3, hy4⟩ := (mem_chn h).1 hy1
    obtain ⟨j, hj⟩ := List.mem_iff_getElem?.1 hy3
    have h2 := hmax j y (List.getElem?_eq_some_iff.1 hj).1 hj (cand_iff.2 ⟨hy4, hy2⟩)
    have h3 := ord_neg x.st y.st
    have h4 : x.st.ord y.st = 0 := by omega
    rw [hs.uniq hm hy (ord_eq h4)]
inductive LArgV (hp : List (Nat × Blk)) (l : List Ver) : CV → Prop where
  | nil (h : l = []) : LArgV hp l (.v (.slice none 0 0))
  | rows (m c cb : Nat) (h : hget hp m = some (.rows 111 9 l.length cb fun j => (vrow l j).map .v)) (hk : 0 < l.length) : LArgV hp l (.s m 0 l.length c)
theorem lasti_s {l : List Ver} {q : Ver → Bool} {i : Nat} {y : Ver} (h : l[i]? = some y) : lasti l q (i + 1) = if q y then pickB l y i (lasti l q i) else lasti l q i := by
  simp only [lasti, h]
section
variable {C : Cx} {fr : List (Nat × SV)} {hp : List (Nat × Blk)} {nx : Nat} {d : Option Tmp} {K : St → Prop}
set_option maxHeartbeats 4000000 in
set_option maxRecDepth 100000 in
theorem rdlast_s (n : Nat) {l : List Ver} {lv a0 a1 b0 b1 b2 b3 : CV} (k : Ky) (at' : V4) (all : Bool) (hl : l.length ≤ 100000) (h0 : hget hp n = some (.cells 78 [a0, a1, lv, b0, b1, b2, b3])) (hL : LArgV hp l lv) (hd : dOk C.N d)
    (hK : kput K ⟨fr, hp, nx + 1⟩ d (.c (ci (optI (lastAt l k fun v => all || v.st.seen at'))))) :
    SCall Try.prog C 46 [.c (.p n 0 0), .c (.v (.string k.1)), .c (.v (.string k.2)), sv4 at'.a at'.b at'.c at'.d, .c (.v (.bool all))] d K ⟨fr, hp, nx⟩ := by
  refine scall_post ?_
  refine scall_names rfl fun hnm honce => ?_
  have l0 := hget_lt hnm h0
  refine scall_in 87 _ Try.func46 rfl Try.ntmps46 Try.results46 Try.call46 (by simp only [go_sem, hd]) (fun _ _ => ?_)
  have hs1 : ∀ b, sameAll hp ((nx, b) :: hp) = True := fun b => sameAll_push honce hnm
  have g0 : ∀ b, hget ((nx, b) :: hp) n = hget hp n := fun b => by rw [hget_cons, if_neg (by omega)]
  have fin : ∀ (r : Int), r = optI (lastAt l k fun v => all || v.st.seen at') → kput (fun st' => ∃ st2, (∀ ρ a w, Sat C st' ρ a w → Sat C st2 ρ a w) ∧ st'.nx ≤ st2.nx ∧ K st2) ⟨fr, (nx, .cells 57 [cu at'.a, cu at'.b, cu at'.c, cu at'.d]) :: hp, nx + 1⟩ d (.c (ci r)) := fun r hr => by
    subst hr
    exact ⟨_, fun ρ a w hs => by
      rcases d with _ | d
      · exact hs.tail
      · exact hs.tail, by rcases d with _ | d <;> exact Nat.le_refl _, hK⟩
  simp (disch := omega) only [go_sem, wrapI64, wrapu64, wrapu32, wrapu8, ltT, ltF, leT, leF, eqF, eqT, nltT, nleT, neqFn]
  cases hL with
  | nil h =>
    subst h
    refine sloop (fun _ : Unit => ⟨[(0, .c (.p n 0 0)), (11, .c (ci (-1))), (12, .c (ci 0))], (nx, .cells 57 [cu at'.a, cu at'.b, cu at'.c, cu at'.d]) :: hp, nx + 1⟩) (fun _ => True) (fun _ => 0) () trivial (ent_fr ⟨rfl, rfl, rfl, trivial⟩) (fun _ _ => ?_)
    simp (disch := omega) only [go_sem, wrapI64, wrapu64, wrapu32, wrapu8, ltT, ltF, leT, leF, eqF, eqT, nltT, nleT, neqFn, h0]
    exact fin _ rfl
  | rows m c cb h hk =>
    have lm := hget_lt hnm h
    have d0 : n ≠ m := fun e => by rw [e, h] at h0; cases h0
    have gm : ∀ b, hget ((nx, b) :: hp) m = hget hp m := fun b => by rw [hget_cons, if_neg (by omega)]
    refine sloop (fun i : Nat => ⟨[(0, .c (.p n 0 0)), (1, .c (.v (.string k.1))), (2, .c (.v (.string k.2))), (4, .c (.v (.bool all))), (8, .c (.p nx 0 0)), (11, .c (ci (optI (lasti l (cand k fun v => all || v.st.seen at') i)))), (12, .c (ci i))], (nx, .cells 57 [cu at'.a, cu at'.b, cu at'.c, cu at'.d]) :: hp, nx + 1⟩) (fun i => i ≤ l.length) (fun i => l.length - i) 0 (Nat.zero_le _) (ent_fr ⟨rfl, rfl, rfl, rfl, rfl, rfl, rfl, trivial⟩) (fun i hi => ?_)
    rcases Nat.lt_or_ge i l.length with hil | hil
    · obtain ⟨y, hy⟩ : ∃ y, l[i]? = some y := ⟨_, List.getElem?_eq_getElem hil⟩
      have hrow := vrow_eq hy
      have hstep := lasti_s (q := cand k fun v => all || v.st.seen at') hy
      obtain ⟨Z, hZ⟩ : ∃ Z, lasti l (cand k fun v => all || v.st.seen at') i = Z := ⟨_, rfl⟩
      have hlt := lasti_lt l (cand k fun v => all || v.st.seen at') i
      have hmi : ∀ i' : Nat, i < l.length → i' = i + 1 → l.length - i' < l.length - i := fun i' h1 h2 => by omega
      rw [hZ] at hstep hlt
      have hno : cand k (fun v => all || v.st.seen at') y = false → lasti l (cand k fun v => all || v.st.seen at') (i + 1) = Z := fun hc => by rw [hstep, if_neg (by rw [hc]; simp)]
      have hyes : cand k (fun v => all || v.st.seen at') y = true → lasti l (cand k fun v => all || v.st.seen at') (i + 1) = pickB l y i Z := fun hc => by rw [hstep, if_pos hc]
      rw [hZ]
      simp (disch := omega) only [go_sem, wrapI64, wrapu64, wrapu32, wrapu8, ltT, ltF, leT, leF, eqF, eqT, nltT, nleT, neqFn, h0, h]
      refine sdraw [.t 0, .t 1, .t 2, .t 3, .t 4, .t 5, .t 6, .t 7, .t 8, .t 9, .t 10, .t 11, .t 12, .t 13, .t 14, .t 15, .t 16, .t 17, .t 18, .t 19, .t 20, .t 21, .t 22, .t 23, .t 24, .t 25, .t 26, .t 27, .t 28, .t 29, .t 30, .t 31, .t 32, .t 33, .t 34, .t 35, .t 36, .r 37, .t 38, .t 39, .t 40] 41 [(nx, _), (n, _), (m, _)] rfl (by kernel_rfl) ⟨by rw [hget_cons, if_pos rfl], (g0 _).trans h0, (gm _).trans h, trivial⟩ ?_
      cases hb : decide (y.x.b = k.1)
      · simp (disch := omega) only [go_sem, wrapI64, wrapu64, wrapu32, wrapu8, ltT, ltF, leT, leF, eqF, eqT, nltT, nleT, neqFn, hrow, hb]
        refine ⟨i + 1, hil, by omega, ?_⟩
        have e := hno (by unfold cand; rw [hb]; simp)
        rw [e]
        exact ent_fr ⟨rfl, rfl, rfl, rfl, rfl, rfl, rfl, trivial⟩
      · cases hkk : decide (y.x.k = k.2)
        · simp (disch := omega) only [go_sem, wrapI64, wrapu64, wrapu32, wrapu8, ltT, ltF, leT, leF, eqF, eqT, nltT, nleT, neqFn, hrow, hb, hkk]
          refine ⟨i + 1, hil, by omega, ?_⟩
          have e := hno (by unfold cand; rw [hkk]; simp)
          rw [e]
          exact ent_fr ⟨rfl, rfl, rfl, rfl, rfl, rfl, rfl, trivial⟩
        · cases all
          · simp (disch := omega) only [go_sem, wrapI64, wrapu64, wrapu32, wrapu8, ltT, ltF, leT, leF, eqF, eqT, nltT, nleT, neqFn, hrow, hb, hkk]
            refine rseen_s (x := y.st) (h := at') ?_
            cases hs : y.st.seen at'
            · simp (disch := omega) only [go_sem, wrapI64, wrapu64, wrapu32, wrapu8, ltT, ltF, leT, leF, eqF, eqT, nltT, nleT, neqFn, h0, h]
              refine ⟨i + 1, hil, by omega, ?_⟩
              have e := hno (by unfold cand; rw [hb, hkk]; simp [hs])
              rw [e]
              exact ent_fr ⟨rfl, rfl, rfl, rfl, rfl, rfl, rfl, trivial⟩
            · simp (disch := omega) only [go_sem, wrapI64, wrapu64, wrapu32, wrapu8, ltT, ltF, leT, leF, eqF, eqT, nltT, nleT, neqFn, h0, h]
              rcases Z with _ | b
              · simp (disch := omega) only [go_sem, wrapI64, wrapu64, wrapu32, wrapu8, ltT, ltF, leT, leF, eqF, eqT, nltT, nleT, neqFn, optI]
                refine sdraw [.t 0, .t 1, .t 2, .t 3, .t 4, .t 5, .t 6, .t 7, .t 8, .t 9, .t 10, .t 11, .t 12, .t 13, .t 14, .t 15, .t 16, .t 17, .t 18, .r 19, .t 20, .t 21] 22 [(n, _), (m, _)] rfl (by kernel_rfl) ⟨(g0 _).trans h0, (gm _).trans h, trivial⟩ ?_
                simp (disch := omega) only [go_sem, wrapI64, wrapu64, wrapu32, wrapu8, ltT, ltF, leT, leF, eqF, eqT, nltT, nleT, neqFn]
                refine ⟨i + 1, hil, by omega, ?_⟩
                have e := hyes (by unfold cand; rw [hb, hkk]; simp [hs])
                rw [e]
                exact ent_fr ⟨rfl, rfl, rfl, rfl, rfl, rfl, rfl, trivial⟩
              · have hbi := hlt b rfl
                obtain ⟨z, hz⟩ : ∃ z, l[b]? = some z := ⟨_, List.getElem?_eq_getElem (by omega)⟩
                have hgd : l.getD b ver0 = z := by simp [List.getD_eq_getElem?_getD, hz]
                have hrowz := vrow_eq hz
                simp (disch := omega) only [go_sem, wrapI64, wrapu64, wrapu32, wrapu8, ltT, ltF, leT, leF, eqF, eqT, nltT, nleT, neqFn, optI]
                refine sdraw [.t 0, .t 1, .t 2, .t 3, .t 4, .t 5, .t 6, .t 7, .t 8, .t 9, .t 10, .t 11, .t 12, .t 13, .t 14, .t 15, .t 16, .t 17, .t 18, .r 19, .t 20, .t 21] 22 [(n, _), (m, _)] rfl (by kernel_rfl) ⟨(g0 _).trans h0, (gm _).trans h, trivial⟩ ?_
                simp (disch := omega) only [go_sem, wrapI64, wrapu64, wrapu32, wrapu8, ltT, ltF, leT, leF, eqF, eqT, nltT, nleT, neqFn, hrow, hrowz]
                refine rord_s (x := y.st) (y := z.st) ?_
                by_cases ho : 0 < y.st.ord z.st
                · simp (disch := omega) only [go_sem, wrapI64, wrapu64, wrapu32, wrapu8, ltT, ltF, leT, leF, eqF, eqT, nltT, nleT, neqFn, h0, h]
                  refine ⟨i + 1, hil, by omega, ?_⟩
                  have e := (hyes (by unfold cand; rw [hb, hkk]; simp [hs])).trans (show pickB l y i (some b) = some i by simp only [pickB, hgd]; rw [if_pos ho])
                  rw [e]
                  exact ent_fr ⟨rfl, rfl, rfl, rfl, rfl, rfl, rfl, trivial⟩
                · simp (disch := omega) only [go_sem, wrapI64, wrapu64, wrapu32, wrapu8, ltT, ltF, leT, leF, eqF, eqT, nltT, nleT, neqFn, h0, h]
                  refine ⟨i + 1, hil, by omega, ?_⟩
                  have e := (hyes (by unfold cand; rw [hb, hkk]; simp [hs])).trans (show pickB l y i (some b) = some b by simp only [pickB, hgd]; rw [if_neg ho])
                  rw [e]
                  exact ent_fr ⟨rfl, rfl, rfl, rfl, rfl, rfl, rfl, trivial⟩

          · simp (disch := omega) only [go_sem, wrapI64, wrapu64, wrapu32, wrapu8, ltT, ltF, leT, leF, eqF, eqT, nltT, nleT, neqFn, hrow, hb, hkk]
            rcases Z with _ | b
            · simp (disch := omega) only [go_sem, wrapI64, wrapu64, wrapu32, wrapu8, ltT, ltF, leT, leF, eqF, eqT, nltT, nleT, neqFn, optI]
              refine sdraw [.t 0, .t 1, .t 2, .t 3, .t 4, .t 5, .t 6, .t 7, .t 8, .t 9, .t 10, .t 11, .t 12, .t 13, .t 14, .t 15, .t 16, .t 17, .t 18, .r 19, .t 20, .t 21] 22 [(n, _), (m, _)] rfl (by kernel_rfl) ⟨(g0 _).trans h0, (gm _).trans h, trivial⟩ ?_
              simp (disch := omega) only [go_sem, wrapI64, wrapu64, wrapu32, wrapu8, ltT, ltF, leT, leF, eqF, eqT, nltT, nleT, neqFn, h0, h]
              refine ⟨i + 1, hil, by omega, ?_⟩
              have e := hyes (by unfold cand; rw [hb, hkk]; simp)
              rw [e]
              exact ent_fr ⟨rfl, rfl, rfl, rfl, rfl, rfl, rfl, trivial⟩
            · have hbi := hlt b rfl
              obtain ⟨z, hz⟩ : ∃ z, l[b]? = some z := ⟨_, List.getElem?_eq_getElem (by omega)⟩
              have hgd : l.getD b ver0 = z := by simp [List.getD_eq_getElem?_getD, hz]
              have hrowz := vrow_eq hz
              simp (disch := omega) only [go_sem, wrapI64, wrapu64, wrapu32, wrapu8, ltT, ltF, leT, leF, eqF, eqT, nltT, nleT, neqFn, optI]
              refine sdraw [.t 0, .t 1, .t 2, .t 3, .t 4, .t 5, .t 6, .t 7, .t 8, .t 9, .t 10, .t 11, .t 12, .t 13, .t 14, .t 15, .t 16, .t 17, .t 18, .r 19, .t 20, .t 21] 22 [(n, _), (m, _)] rfl (by kernel_rfl) ⟨(g0 _).trans h0, (gm _).trans h, trivial⟩ ?_
              simp (disch := omega) only [go_sem, wrapI64, wrapu64, wrapu32, wrapu8, ltT, ltF, leT, leF, eqF, eqT, nltT, nleT, neqFn, hrow, hrowz]
              refine rord_s (x := y.st) (y := z.st) ?_
              by_cases ho : 0 < y.st.ord z.st
              · simp (disch := omega) only [go_sem, wrapI64, wrapu64, wrapu32, wrapu8, ltT, ltF, leT, leF, eqF, eqT, nltT, nleT, neqFn, h0, h]
                refine ⟨i + 1, hil, by omega, ?_⟩
                have e := (hyes (by unfold cand; rw [hb, hkk]; simp)).trans (show pickB l y i (some b) = some i by simp only [pickB, hgd]; rw [if_pos ho])
                rw [e]
                exact ent_fr ⟨rfl, rfl, rfl, rfl, rfl, rfl, rfl, trivial⟩
              · simp (disch := omega) only [go_sem, wrapI64, wrapu64, wrapu32, wrapu8, ltT, ltF, leT, leF, eqF, eqT, nltT, nleT, neqFn, h0, h]
                refine ⟨i + 1, hil, by omega, ?_⟩
                have e := (hyes (by unfold cand; rw [hb, hkk]; simp)).trans (show pickB l y i (some b) = some b by simp only [pickB, hgd]; rw [if_neg ho])
                rw [e]
                exact ent_fr ⟨rfl, rfl, rfl, rfl, rfl, rfl, rfl, trivial⟩

    · have : i = l.length := by
        have hi : i ≤ l.length := hi
        omega
      subst this
      simp (disch := omega) only [go_sem, wrapI64, wrapu64, wrapu32, wrapu8, ltT, ltF, leT, leF, eqF, eqT, nltT, nleT, neqFn, h0, h]
      exact fin _ rfl
end
end Go.Proofs.Ytagjblkfgjcmnaa
namespace Go.Proofs.Ytagjblkfgjcmnaa
open Go.RowKit Go.Sx CW
attribute [local go_sem ↓] reduceIte
attribute [local go_sem] Nat.reduceEqDiff Nat.reduceLT Nat.reduceLeDiff Nat.reduceAdd Nat.reduceMul Nat.reduceSub Nat.reduceDiv Nat.reduceMod Int.reduceToNat Int.reduceLT Int.reduceLE Int.reduceAdd Int.reduceSub Int.reduceMul Int.reduceEq Int.reduceNeg reduceCtorEq or_false false_or decide_true decide_false Int.cast_ofNat_Int Nat.zero_add Nat.add_zero Int.toNat_natCast Option.isNone_none Option.isNone_some Bool.not_true Bool.not_false Bool.xor_true Bool.xor_false Bool.true_xor Bool.false_xor Bool.and_true Bool.true_and Bool.and_false Bool.false_and eq_self ne_eq not_false_eq_true not_true_eq_false true_and and_true and_self

theorem rd_none {s : ShS} {k : Ky} {at' : V4} (h : rdL (chn s.l k) (fun x => x.st.seen at') = none) : s.rd k at' = ver0 ∧ s.rdO k at' = false := by
  unfold ShS.rd ShS.rdO CW.rdV CW.rdB; rw [h]; exact ⟨rfl, rfl⟩
theorem rd_some {s : ShS} {k : Ky} {at' : V4} {x : Ver} (h : rdL (chn s.l k) (fun x => x.st.seen at') = some x) : s.rd k at' = x ∧ s.rdO k at' = true := by
  unfold ShS.rd ShS.rdO CW.rdV CW.rdB; rw [h]; exact ⟨rfl, rfl⟩
theorem la_none {s : ShS} {k : Ky} (h : rdL (chn s.l k) (fun _ => true) = none) : s.la k = ver0 ∧ s.laO k = false := by
  unfold ShS.la ShS.laO CW.rdV CW.rdB; rw [h]; exact ⟨rfl, rfl⟩
theorem la_some {s : ShS} {k : Ky} {x : Ver} (h : rdL (chn s.l k) (fun _ => true) = some x) : s.la k = x ∧ s.laO k = true := by
  unfold ShS.la ShS.laO CW.rdV CW.rdB; rw [h]; exact ⟨rfl, rfl⟩
theorem optI_neg (n : Nat) : (optI (some n) < 0) = False := by simp only [optI, eq_iff_iff, iff_false]; omega
set_option maxHeartbeats 4000000 in
set_option maxRecDepth 100000 in
theorem rdread_c (g : Nat) (s : ShS) (hwf : WfL s.l) (hl : s.l.length ≤ 100000) (k : Ky) (at' : V4) (fp : List Nat) (w : World) (h : On g (RSd s) fp w) :
    Calls Try.prog 23 #[gptr g, .string k.1, .string k.2, at'.v] w (TurnK g fp (.tuple #[.string (s.rd k at').x.x, (s.rd k at').st.val, .bool (s.rdO k at' && !(s.rd k at').x.g)]) (RSd s) w) := by
  refine on_calls2 h 47 _ Try.func23 rfl Try.ntmps23 Try.results23 [.c (.p 0 0 0), .c (.v (.string k.1)), .c (.v (.string k.2)), sv4 at'.a at'.b at'.c at'.d] (by simp) (fun ρ' h1 h2 => by simp [SV.denL, SV.den, CV.den, CV.denL, gptr, h1, h2]) (fun ρ nx hp hsh hg hb hh => ?_)
  have hsh0 := hsh
  obtain ⟨rfl, lv, lb, wv, wb, its, fpb, hL, hW, hi, rfl⟩ := hsh
  have hsol := rsd_sol s (fpb := fpb) hL hW
  have fin : ∀ {fr hp nx} {ρ' : Env} {a : Act} {w' : World}, Sat ⟨w, (· ∈ fp), 47, 4, ρ⟩ ⟨fr, hp, nx⟩ ρ' a w' → (∀ k, k < 4 → ρ' k = ρ k) → hpSub hp [(0, rsO s wv lv), (1, lb), (2, wb), (3, .pred fpb (All BatQ its fpb))] → On g (RSd s) fp w' ∧ Chg fp fp w w' := fun hs' hag hsub => on_same rfl rfl (hs'.sub hsub (by simp)) hag hh hsol hsh0 hg hb
  rcases hL with ⟨hn, rfl, rfl⟩ | ⟨c, ⟨hc, hc0⟩, rfl, rfl⟩
  · have hla : lastAt s.l k (fun v => false || v.st.seen at') = none := by rw [hn]; rfl
    obtain ⟨e1, e2⟩ := rd_none (lastAt_none hwf hla)
    rw [e1, e2]
    simp only [go_sem, rsO]
    refine rdlast_s 0 k at' false hl rfl (.nil hn) (Nat.le_of_ble_eq_true rfl) ?_
    rw [hla]
    simp only [go_sem, optI, ver0]
    exact fun ρ' a w' hs' hag => ⟨rfl, fin hs' hag ⟨rfl, rfl, rfl, rfl, trivial⟩⟩
  · simp only [go_sem, rsO]
    refine rdlast_s 0 k at' false hl rfl (.rows 1 c c rfl hc0) (Nat.le_of_ble_eq_true rfl) ?_
    cases hla : lastAt s.l k (fun v => false || v.st.seen at') with
    | none =>
      obtain ⟨e1, e2⟩ := rd_none (lastAt_none hwf hla)
      rw [e1, e2]
      simp only [go_sem, optI, ver0]
      exact fun ρ' a w' hs' hag => ⟨rfl, fin hs' hag ⟨rfl, rfl, rfl, rfl, trivial⟩⟩
    | some b =>
      obtain ⟨x, hx, hxk, hr⟩ := lastAt_some hwf hla
      obtain ⟨e1, e2⟩ := rd_some hr
      have hrow := vrow_eq hx
      have hbl := (List.getElem?_eq_some_iff.1 hx).1
      rw [e1, e2]
      simp (disch := omega) only [go_sem, wrapI64, wrapu64, wrapu32, wrapu8, ltT, ltF, leT, leF, eqF, eqT, nltT, nleT, neqFn, optI]
      refine sdraw [.t 0, .t 1, .t 2, .t 3, .t 4, .t 5, .t 6, .t 7, .t 8, .t 9, .t 10, .t 11, .t 12, .t 13, .t 14, .t 15, .t 16, .t 17, .t 18, .t 19, .t 20, .t 21, .t 22, .t 23, .t 24, .t 25, .t 26, .t 27, .r 28, .t 29] 30 [(0, _), (1, _)] rfl (by kernel_rfl) ⟨rfl, rfl, trivial⟩ ?_
      simp (disch := omega) only [go_sem, wrapI64, wrapu64, wrapu32, wrapu8, ltT, ltF, leT, leF, eqF, eqT, nltT, nleT, neqFn, hrow]
      exact fun ρ' a w' hs' hag => ⟨rfl, fin hs' hag ⟨rfl, rfl, rfl, rfl, trivial⟩⟩
set_option maxHeartbeats 4000000 in
set_option maxRecDepth 100000 in
theorem rdlastm_c (g : Nat) (s : ShS) (hwf : WfL s.l) (hl : s.l.length ≤ 100000) (k : Ky) (fp : List Nat) (w : World) (h : On g (RSd s) fp w) :
    Calls Try.prog 25 #[gptr g, .string k.1, .string k.2] w (TurnK g fp (.tuple #[(s.la k).x.val, (s.la k).st.val, .bool (s.laO k)]) (RSd s) w) := by
  refine on_calls2 h 35 _ Try.func25 rfl Try.ntmps25 Try.results25 [.c (.p 0 0 0), .c (.v (.string k.1)), .c (.v (.string k.2))] (by simp) (fun ρ' h1 h2 => by simp [SV.denL, SV.den, CV.den, CV.denL, gptr, h1, h2]) (fun ρ nx hp hsh hg hb hh => ?_)
  have hsh0 := hsh
  obtain ⟨rfl, lv, lb, wv, wb, its, fpb, hL, hW, hi, rfl⟩ := hsh
  have hsol := rsd_sol s (fpb := fpb) hL hW
  have fin : ∀ {fr hp nx} {ρ' : Env} {a : Act} {w' : World}, Sat ⟨w, (· ∈ fp), 35, 4, ρ⟩ ⟨fr, hp, nx⟩ ρ' a w' → (∀ k, k < 4 → ρ' k = ρ k) → hpSub hp [(0, rsO s wv lv), (1, lb), (2, wb), (3, .pred fpb (All BatQ its fpb))] → On g (RSd s) fp w' ∧ Chg fp fp w w' := fun hs' hag hsub => on_same rfl rfl (hs'.sub hsub (by simp)) hag hh hsol hsh0 hg hb
  rcases hL with ⟨hn, rfl, rfl⟩ | ⟨c, ⟨hc, hc0⟩, rfl, rfl⟩
  · have hla : lastAt s.l k (fun v => true || v.st.seen ⟨0, 0, 0, 0⟩) = none := by rw [hn]; rfl
    obtain ⟨e1, e2⟩ := la_none (lastAt_none hwf hla)
    rw [e1, e2]
    simp only [go_sem, rsO]
    refine rdlast_s 0 k ⟨0, 0, 0, 0⟩ true hl rfl (.nil hn) (Nat.le_of_ble_eq_true rfl) ?_
    rw [hla]
    simp only [go_sem, optI, ver0]
    exact fun ρ' a w' hs' hag => ⟨rfl, fin hs' hag ⟨rfl, rfl, rfl, rfl, trivial⟩⟩
  · simp only [go_sem, rsO]
    refine rdlast_s 0 k ⟨0, 0, 0, 0⟩ true hl rfl (.rows 1 c c rfl hc0) (Nat.le_of_ble_eq_true rfl) ?_
    cases hla : lastAt s.l k (fun v => true || v.st.seen ⟨0, 0, 0, 0⟩) with
    | none =>
      obtain ⟨e1, e2⟩ := la_none (lastAt_none hwf hla)
      rw [e1, e2]
      simp only [go_sem, optI, ver0]
      exact fun ρ' a w' hs' hag => ⟨rfl, fin hs' hag ⟨rfl, rfl, rfl, rfl, trivial⟩⟩
    | some b =>
      obtain ⟨x, hx, hxk, hr⟩ := lastAt_some hwf hla
      obtain ⟨e1, e2⟩ := la_some hr
      have hrow := vrow_eq hx
      have hbl := (List.getElem?_eq_some_iff.1 hx).1
      rw [e1, e2]
      simp (disch := omega) only [go_sem, wrapI64, wrapu64, wrapu32, wrapu8, ltT, ltF, leT, leF, eqF, eqT, nltT, nleT, neqFn, optI]
      refine sdraw [.t 0, .t 1, .t 2, .t 3, .t 4, .t 5, .t 6, .t 7, .t 8, .t 9, .t 10, .t 11, .t 12, .t 13, .t 14, .t 15, .r 16, .r 17, .t 18] 19 [(0, _), (1, _)] rfl (by kernel_rfl) ⟨rfl, rfl, trivial⟩ ?_
      simp (disch := omega) only [go_sem, wrapI64, wrapu64, wrapu32, wrapu8, ltT, ltF, leT, leF, eqF, eqT, nltT, nleT, neqFn, hrow]
      exact fun ρ' a w' hs' hag => ⟨rfl, fin hs' hag ⟨rfl, rfl, rfl, rfl, trivial⟩⟩
theorem _root_.Go.Sx.Sat.none3 {C : Cx} {fr : List (Nat × SV)} {hp : List (Nat × Blk)} {nx : Nat} {ρ : Env} {a : Act} {w : World} (hs : Sat C ⟨fr, hp, nx⟩ ρ a w) (R1 R2 R3 : World → Prop) (h1 : R1 w) (h2 : R2 w) (h3 : R3 w) (s1 : Stable [] R1) (s2 : Stable [] R2) (s3 : Stable [] R3) :
    ∃ ρ', (∀ k, k < nx → ρ' k = ρ k) ∧ Sat C ⟨fr, (nx + 2, .pred [] R3) :: (nx + 1, .pred [] R2) :: (nx, .pred [] R1) :: hp, nx + 3⟩ ρ' a w := by
  have a1 := hs.add (.pred [] R1) ⟨0, 0, 0⟩ [] (fun ρ' _ _ => ⟨h1, s1, by simp, by simp⟩) (fun _ _ => rfl) (by simp) (by simp)
  have a2 := a1.add (.pred [] R2) ⟨0, 0, 0⟩ [] (fun ρ' _ _ => ⟨h2, s2, by simp, by simp⟩) (fun _ _ => rfl) (by simp) (by simp)
  have a3 := a2.add (.pred [] R3) ⟨0, 0, 0⟩ [] (fun ρ' _ _ => ⟨h3, s3, by simp, by simp⟩) (fun _ _ => rfl) (by simp) (by simp)
  exact ⟨_, fun k hk => by simp [envSet, Nat.ne_of_lt hk, Nat.ne_of_lt (Nat.lt_succ_of_lt hk), show k ≠ nx + 1 + 1 by omega], a3⟩
set_option maxRecDepth 100000 in
theorem rdnew_c (room : Int) (w : World) : Calls Try.prog 10 #[.int .i64 room] w fun e w' =>
    if roomOk room then ∃ g fp', e = .returned (gptr g) ∧ On g (RSd (ShS.new room.toNat)) fp' w' ∧ Chg [] fp' w w' else e = .returned (.pointer none) ∧ Below w.heap.size w w' := by
  refine calls_pure 12 _ Try.func10 rfl Try.ntmps10 Try.results10 [.c (.v (.int .i64 room))] (by simp) (fun _ => rfl) ?_
  by_cases h1 : 1 ≤ room
  · by_cases h2 : room ≤ 16
    · have hok : roomOk room = true := by simp [roomOk, h1, h2]
      simp only [hok, if_true]
      simp (disch := omega) only [go_sem, wrapI64, wrapu64, wrapu32, wrapu8, ltT, ltF, leT, leF, eqF, eqT, nltT, nleT, neqFn]
      refine fun ρ a w hs _ => ?_
      have hb := (hs.now.hp 0 _ (mem_hget rfl)).1
      obtain ⟨ρ', hρ, hs2⟩ := hs.none3 (fun _ => True) (fun _ => True) (All BatQ [] []) trivial trivial All.nil (fun _ _ _ _ => trivial) (fun _ _ _ _ => trivial) (All.stable BatQ.stable)
      have e0 := hρ 0 (by show 0 < 1; omega)
      have hroom : ((room.toNat : Nat) : Int) = room := by omega
      obtain ⟨fp', hon, hch⟩ := rsd_end (fp := []) (g := (ρ 0).blk) (ShS.new room.toNat) id rfl (by funext k; simp) hs2 (congrArg Nm.blk e0) ((congrArg Nm.base e0).trans hb) (lv := .v (.slice none 0 0)) (wv := .v (.slice none 0 0)) (its := []) (.inl ⟨rfl, rfl, rfl⟩) (.inl ⟨rfl, rfl, rfl⟩) rfl (by simp) (by simp only [ShS.new, rsO, hroom]; rfl) rfl rfl rfl
      exact ⟨(ρ 0).blk, fp', by simp [SV.den, CV.den, gptr, hb], hon, hch⟩
    · have hok : roomOk room = false := by simp [roomOk]; omega
      simp only [hok, Bool.false_eq_true, if_false]
      simp (disch := omega) only [go_sem, wrapI64, wrapu64, wrapu32, wrapu8, ltT, ltF, leT, leF, eqF, eqT, nltT, nleT, neqFn]
      exact fun ρ a w hs _ => ⟨rfl, hs.grown⟩
  · have hok : roomOk room = false := by simp [roomOk]; omega
    simp only [hok, Bool.false_eq_true, if_false]
    simp (disch := omega) only [go_sem, wrapI64, wrapu64, wrapu32, wrapu8, ltT, ltF, leT, leF, eqF, eqT, nltT, nleT, neqFn]
    exact fun ρ a w hs _ => ⟨rfl, hs.grown⟩
end Go.Proofs.Ytagjblkfgjcmnaa
namespace Go.Proofs.Ytagjblkfgjcmnaa
open Go.RowKit Go.Sx CW
attribute [local go_sem ↓] reduceIte
attribute [local go_sem] Nat.reduceEqDiff Nat.reduceLT Nat.reduceLeDiff Nat.reduceAdd Nat.reduceMul Nat.reduceSub Nat.reduceDiv Nat.reduceMod Int.reduceToNat Int.reduceLT Int.reduceLE Int.reduceAdd Int.reduceSub Int.reduceMul Int.reduceEq Int.reduceNeg reduceCtorEq or_false false_or decide_true decide_false Int.cast_ofNat_Int Nat.zero_add Nat.add_zero Int.toNat_natCast Option.isNone_none Option.isNone_some Bool.not_true Bool.not_false Bool.xor_true Bool.xor_false Bool.true_xor Bool.false_xor Bool.and_true Bool.true_and Bool.and_false Bool.false_and eq_self ne_eq not_false_eq_true not_true_eq_false true_and and_true and_self

theorem lv_of {l : List Ver} {lv : CV} {lb : Blk} (h : SL 1 111 9 (vrow l) l.length lv lb) : LV l lv lb := by
  rcases h with ⟨h1, rfl, rfl⟩ | ⟨c, hc, rfl, rfl⟩
  · exact .inl ⟨List.length_eq_zero_iff.1 h1, rfl, rfl⟩
  · exact .inr ⟨c, hc, rfl, rfl⟩
def delL (l : List Ver) (h : V4) (v : Ver) : Bool := del (chn l (Ver.ky v)) h v
theorem pruL_flt (l : List Ver) (h : V4) : pruL l h = flt (delL l h) l l.length := flt_end.symm
theorem wf_two {l : List Ver} (hw : WfL l) {i j : Nat} (hij : i < j) {x y : Ver} (hx : l[i]? = some x) (hy : l[j]? = some y) : ¬ (Ver.ky x = Ver.ky y ∧ x.st = y.st) := by
  have := List.pairwise_iff_getElem.1 hw.1 i j (List.getElem?_eq_some_iff.1 hx).1 (List.getElem?_eq_some_iff.1 hy).1 hij
  rwa [(List.getElem?_eq_some_iff.1 hx).2, (List.getElem?_eq_some_iff.1 hy).2] at this
theorem delL_of {l : List Ver} (hw : WfL l) {h : V4} {k : Nat} {v : Ver} (hv : l[k]? = some v) : delL l h v = (v.st.seen h && !decide (optI (lastAt l (Ver.ky v) fun v => false || v.st.seen h) = k)) := by
  unfold delL del
  cases hs : v.st.seen h
  · rfl
  · rw [Bool.true_and, Bool.true_and, decide_not]
    congr 1
    cases hl : lastAt l (Ver.ky v) (fun v => false || v.st.seen h) with
    | none =>
      exfalso
      have := lasti_none l _ _ (Nat.le_refl _) hl k v (List.getElem?_eq_some_iff.1 hv).1 hv
      rw [cand_iff.2 ⟨rfl, hs⟩] at this; cases this
    | some b =>
      obtain ⟨x, hx, hxk, hr⟩ := lastAt_some hw hl
      have e : bst (chn l (Ver.ky v)) h = x := by
        unfold bst
        rw [show (fun x : Ver => x.st.seen h) = fun v => false || v.st.seen h from rfl, hr]; rfl
      rw [e]
      simp only [optI]
      congr 1
      rw [eq_iff_iff]
      constructor
      · intro hst
        rcases Nat.lt_trichotomy b k with hbk | hbk | hbk
        · exact absurd ⟨hxk, hst.symm⟩ (wf_two hw hbk hx hv)
        · rw [hbk]
        · exact absurd ⟨hxk.symm, hst⟩ (wf_two hw hbk hv hx)
      · intro hbk
        have : b = k := by omega
        subst this
        rw [hx] at hv; injection hv with hv; rw [hv]
abbrev RP5 := Nat × Nat × Nat × CV × Blk
def rp5F (s : ShS) (h : V4) (c : Nat) (wv : CV) (wb : Blk) (its : List BatA) (fpb : List Nat) (p : RP5) : St :=
  ⟨[(6, .c (ci p.1)), (5, .c p.2.2.2.1), (3, .c (.p 4 0 0)), (0, .c (.p 0 0 0))], [(p.2.1, p.2.2.2.2), (4, .cells 57 [cu h.a, cu h.b, cu h.c, cu h.d]), (0, rsO s wv (.s 1 0 s.l.length c)), (1, .rows 111 9 s.l.length c fun j => (vrow s.l j).map .v), (2, wb), (3, .pred fpb (All BatQ its fpb))], p.2.2.1⟩
set_option maxHeartbeats 4000000 in
set_option maxRecDepth 100000 in
theorem rdprune_c (g : Nat) (s : ShS) (hwf : WfL s.l) (hl : s.l.length ≤ 100000) (h : V4) (fp : List Nat) (w : World) (ho : On g (RSd s) fp w) :
    Calls Try.prog 17 #[gptr g, h.v] w (Turn g fp (.int .i64 ((s.l.length : Int) - (pruL s.l h).length)) (RSd (s.prune h)) w) := by
  refine on_calls ho 62 _ Try.func17 rfl Try.ntmps17 Try.results17 [.c (.p 0 0 0), sv4 h.a h.b h.c h.d] (by simp) (fun ρ' h1 h2 => by simp [SV.denL, SV.den, CV.den, CV.denL, gptr, h1, h2]) (fun ρ nx hp hsh hg hb => ?_)
  obtain ⟨rfl, lv, lb, wv, wb, its, fpb, hL, hW, hi, rfl⟩ := hsh
  have hwv := hW.blk.2.2.2.2
  have hle := flt_le (p := delL s.l h) (l := s.l) s.l.length
  have hfin := pruL_flt s.l h
  rcases hL with ⟨hn, rfl, rfl⟩ | ⟨c, ⟨hc, hc0⟩, rfl, rfl⟩
  · simp only [go_sem, rsO]
    refine sloop (fun _ : Unit => ⟨[(6, .c (ci 0)), (5, .c (.v (.slice none 0 0))), (0, .c (.p 0 0 0))], [(0, rsO s wv (.v (.slice none 0 0))), (1, none0), (2, wb), (3, .pred fpb (All BatQ its fpb))], 5⟩) (fun _ => True) (fun _ => 0) () trivial (ent_drop ⟨rfl, rfl, rfl, trivial⟩ ⟨rfl, rfl, rfl, rfl, trivial⟩ (by simp)) (fun _ _ => ?_)
    simp (disch := omega) only [go_sem, wrapI64, wrapu64, wrapu32, wrapu8, ltT, ltF, leT, leF, eqF, eqT, nltT, nleT, neqFn, rsO]
    have hp0 : pruL s.l h = [] := by rw [hn]; rfl
    refine fun ρ' a w' hs' hag => ?_
    obtain ⟨fp', hon, hch⟩ := rsd_end (s.prune h) id rfl rfl hs' ((congrArg Nm.blk (hag 0 (by show 0 < 4; omega))).trans hg) ((congrArg Nm.base (hag 0 (by show 0 < 4; omega))).trans hb) (lv := .v (.slice none 0 0)) (lb := none0) (by show LV (pruL s.l h) _ _; rw [hp0]; exact .inl ⟨rfl, rfl, rfl⟩) hW hi (by simp) (by rw [hwv id rfl]; rfl) rfl rfl rfl
    exact ⟨fp', by rw [hp0, hn]; rfl, hon, hch⟩
  · simp only [go_sem, rsO]
    refine sloop (rp5F s h c wv wb its fpb) (fun p => p.1 ≤ s.l.length ∧ (5 ≤ p.2.1 ∧ p.2.1 < p.2.2.1) ∧ SL p.2.1 111 9 (vrow (flt (delL s.l h) s.l p.1)) (flt (delL s.l h) s.l p.1).length p.2.2.2.1 p.2.2.2.2) (fun p => s.l.length - p.1) (0, 5, 6, .v (.slice none 0 0), .pred [] fun _ => True)
      ⟨Nat.zero_le _, ⟨Nat.le_refl _, Nat.le_refl _⟩, SL.nil⟩ (ent_none ⟨rfl, rfl, rfl, rfl, trivial⟩ ⟨rfl, rfl, rfl, rfl, rfl, trivial⟩ (by simp)) (fun p hp => ?_)
    obtain ⟨k, T, NX, ov, ob⟩ := p
    obtain ⟨hk, ⟨hT, hTN⟩, hS⟩ : k ≤ s.l.length ∧ (5 ≤ T ∧ T < NX) ∧ SL T 111 9 (vrow (flt (delL s.l h) s.l k)) (flt (delL s.l h) s.l k).length ov ob := hp
    have hok := hS.ok
    have hlen := hS.len
    have hcel := hS.cells
    have hone := hS.one
    unfold rp5F
    dsimp only
    rcases Nat.lt_or_ge k s.l.length with hkl | hkl
    · obtain ⟨y, hy⟩ : ∃ y, s.l[k]? = some y := ⟨_, List.getElem?_eq_getElem hkl⟩
      have hrow := vrow_eq hy
      have hfs := flt_s (p := delL s.l h) hy
      have hd := delL_of hwf (h := h) hy
      have hfl := flt_le (p := delL s.l h) (l := s.l) k
      simp (disch := omega) only [go_sem, wrapI64, wrapu64, wrapu32, wrapu8, ltT, ltF, leT, leF, eqF, eqT, nltT, nleT, neqFn, hrow, rsO]
      refine rdlast_s 0 y.x.kk h false hl (by simp (disch := omega) only [go_sem, wrapI64, wrapu64, wrapu32, wrapu8, ltT, ltF, leT, leF, eqF, eqT, nltT, nleT, neqFn, rsO]; rfl) (.rows 1 c c (by simp (disch := omega) only [go_sem, wrapI64, wrapu64, wrapu32, wrapu8, ltT, ltF, leT, leF, eqF, eqT, nltT, nleT, neqFn]) hc0) (Nat.le_of_ble_eq_true rfl) ?_
      simp (disch := omega) only [go_sem, wrapI64, wrapu64, wrapu32, wrapu8, ltT, ltF, leT, leF, eqF, eqT, nltT, nleT, neqFn, rsO]
      refine rseen_s (x := y.st) (h := h) ?_
      have hkk : Ver.ky y = y.x.kk := rfl
      rw [hkk] at hd
      cases hs : y.st.seen h <;> cases hq : decide (optI (lastAt s.l y.x.kk fun v => false || v.st.seen h) = (k : Int))
      all_goals
        rw [hs, hq] at hd
        simp (disch := omega) only [go_sem, wrapI64, wrapu64, wrapu32, wrapu8, ltT, ltF, leT, leF, eqF, eqT, nltT, nleT, neqFn, hq, hlen, hok]
      case true.false =>
        have hf2 : flt (delL s.l h) s.l (k + 1) = flt (delL s.l h) s.l k := by rw [hfs, hd]; rfl
        refine ⟨(k + 1, T, _, ov, ob), ⟨hkl, ⟨hT, ?_⟩, by show SL T _ 9 (vrow (flt (delL s.l h) s.l (k + 1))) _ ov ob; rw [hf2]; exact hS⟩, by show s.l.length - (k + 1) < s.l.length - k; omega, ent_drop ⟨rfl, rfl, rfl, rfl, trivial⟩ ⟨by simp (disch := omega) only [go_sem, wrapI64, wrapu64, wrapu32, wrapu8, ltT, ltF, leT, leF, eqF, eqT, nltT, nleT, neqFn], by simp (disch := omega) only [go_sem, wrapI64, wrapu64, wrapu32, wrapu8, ltT, ltF, leT, leF, eqF, eqT, nltT, nleT, neqFn], by simp (disch := omega) only [go_sem, wrapI64, wrapu64, wrapu32, wrapu8, ltT, ltF, leT, leF, eqF, eqT, nltT, nleT, neqFn], by simp (disch := omega) only [go_sem, wrapI64, wrapu64, wrapu32, wrapu8, ltT, ltF, leT, leF, eqF, eqT, nltT, nleT, neqFn], by simp (disch := omega) only [go_sem, wrapI64, wrapu64, wrapu32, wrapu8, ltT, ltF, leT, leF, eqF, eqT, nltT, nleT, neqFn], by simp (disch := omega) only [go_sem, wrapI64, wrapu64, wrapu32, wrapu8, ltT, ltF, leT, leF, eqF, eqT, nltT, nleT, neqFn], trivial⟩ (by simp; omega)⟩
        show T < NX + 1 + 1
        omega
      all_goals
        have hf2 : flt (delL s.l h) s.l (k + 1) = flt (delL s.l h) s.l k ++ [y] := by rw [hfs, hd]; rfl
        refine sappendSL T (vrow (flt (delL s.l h) s.l k ++ [y])) rfl rfl tkind76 tsz111 tby111 tz111 hS (by simp (disch := omega) only [go_sem, wrapI64, wrapu64, wrapu32, wrapu8, ltT, ltF, leT, leF, eqF, eqT, nltT, nleT, neqFn]) (by omega) (by simp (disch := omega) only [go_sem, wrapI64, wrapu64, wrapu32, wrapu8, ltT, ltF, leT, leF, eqF, eqT, nltT, nleT, neqFn]; rfl) ⟨⟨rfl, by decide, by decide⟩, by decide, by omega, by omega⟩ (fun i hi => vrow_app hi) (fun i hi => by
          have : i = 0 := by omega
          subst this; simp only [Nat.add_zero]; rw [vrow_last]; rfl) (fun i hi => by
          have : i = 0 := by omega
          subst this; simp only [Nat.add_zero]; rw [vrow_last]; rfl) ⟨by show (48 : Nat) < 62; omega, fun c' hc' => ?_⟩
        simp (disch := omega) only [go_sem, wrapI64, wrapu64, wrapu32, wrapu8, ltT, ltF, leT, leF, eqF, eqT, nltT, nleT, neqFn]
        have hf3 : (flt (delL s.l h) s.l (k + 1)).length = (flt (delL s.l h) s.l k).length + 1 := by rw [hf2]; simp
        refine ⟨(k + 1, NX + 1 + 1 + 1, _, .s _ 0 ((flt (delL s.l h) s.l k).length + 1) c', .rows 111 9 ((flt (delL s.l h) s.l k).length + 1) c' fun j => (vrow (flt (delL s.l h) s.l k ++ [y]) j).map .v), ⟨hkl, ?_, ?_⟩, by show s.l.length - (k + 1) < s.l.length - k; omega, ent_drop ⟨rfl, rfl, rfl, rfl, trivial⟩ ⟨by simp (disch := omega) only [go_sem, wrapI64, wrapu64, wrapu32, wrapu8, ltT, ltF, leT, leF, eqF, eqT, nltT, nleT, neqFn], by simp (disch := omega) only [go_sem, wrapI64, wrapu64, wrapu32, wrapu8, ltT, ltF, leT, leF, eqF, eqT, nltT, nleT, neqFn], by simp (disch := omega) only [go_sem, wrapI64, wrapu64, wrapu32, wrapu8, ltT, ltF, leT, leF, eqF, eqT, nltT, nleT, neqFn], by simp (disch := omega) only [go_sem, wrapI64, wrapu64, wrapu32, wrapu8, ltT, ltF, leT, leF, eqF, eqT, nltT, nleT, neqFn], by simp (disch := omega) only [go_sem, wrapI64, wrapu64, wrapu32, wrapu8, ltT, ltF, leT, leF, eqF, eqT, nltT, nleT, neqFn], by simp (disch := omega) only [go_sem, wrapI64, wrapu64, wrapu32, wrapu8, ltT, ltF, leT, leF, eqF, eqT, nltT, nleT, neqFn], trivial⟩ (by simp; omega)⟩
        · show 5 ≤ NX + 1 + 1 + 1 ∧ NX + 1 + 1 + 1 < NX + 1 + 1 + 1 + 1
          omega
        · show SL (NX + 1 + 1 + 1) _ 9 (vrow (flt (delL s.l h) s.l (k + 1))) (flt (delL s.l h) s.l (k + 1)).length _ _
          rw [hf3, hf2]
          exact .inr ⟨c', ⟨hc', by omega⟩, rfl, rfl⟩
    · have : k = s.l.length := by omega
      subst this
      rw [← hfin] at hS hlen
      have hpl : (pruL s.l h).length ≤ s.l.length := by rw [hfin]; exact hle
      have hwr : IntKind.i64.wrap ((s.l.length : Int) - (pruL s.l h).length) = (s.l.length : Int) - (pruL s.l h).length := wrapI64 (by omega) (by omega)
      obtain ⟨lv', hS', hrn⟩ := hS.name 1
      simp (disch := omega) only [go_sem, wrapI64, wrapu64, wrapu32, wrapu8, ltT, ltF, leT, leF, eqF, eqT, nltT, nleT, neqFn, rsO, hlen, hcel, hone, hwr, List.length_cons, List.length_nil, List.all_cons, List.all_nil, spl]
      refine fun ρ' a w' hs' hag => ?_
      obtain ⟨fp', hon, hch⟩ := rsd_end (s.prune h) (fun q => if q = 1 then T else q) rfl rfl hs' ((congrArg Nm.blk (hag 0 (by show 0 < 4; omega))).trans hg) ((congrArg Nm.base (hag 0 (by show 0 < 4; omega))).trans hb) (lv := lv') (lb := ob) (lv_of hS') hW hi (by simp; omega) (by rw [hwv _ rfl, hrn _ rfl]; simp (disch := omega) only [go_sem, wrapI64, wrapu64, wrapu32, wrapu8, ltT, ltF, leT, leF, eqF, eqT, nltT, nleT, neqFn]; rfl) (by simp (disch := omega) only [go_sem, wrapI64, wrapu64, wrapu32, wrapu8, ltT, ltF, leT, leF, eqF, eqT, nltT, nleT, neqFn]) (by simp (disch := omega) only [go_sem, wrapI64, wrapu64, wrapu32, wrapu8, ltT, ltF, leT, leF, eqF, eqT, nltT, nleT, neqFn]) (by simp (disch := omega) only [go_sem, wrapI64, wrapu64, wrapu32, wrapu8, ltT, ltF, leT, leF, eqF, eqT, nltT, nleT, neqFn]; rfl)
      exact ⟨fp', rfl, hon, hch⟩
end Go.Proofs.Ytagjblkfgjcmnaa
namespace Go.Proofs.Ytagjblkfgjcmnaa
open Go.RowKit Go.Sx CW
attribute [local go_sem ↓] reduceIte
attribute [local go_sem] Nat.reduceEqDiff Nat.reduceLT Nat.reduceLeDiff Nat.reduceAdd Nat.reduceMul Nat.reduceSub Nat.reduceDiv Nat.reduceMod Int.reduceToNat Int.reduceLT Int.reduceLE Int.reduceAdd Int.reduceSub Int.reduceMul Int.reduceEq Int.reduceNeg reduceCtorEq or_false false_or decide_true decide_false Int.cast_ofNat_Int Nat.zero_add Nat.add_zero Int.toNat_natCast Option.isNone_none Option.isNone_some Bool.not_true Bool.not_false Bool.xor_true Bool.xor_false Bool.true_xor Bool.false_xor Bool.and_true Bool.true_and Bool.and_false Bool.false_and eq_self ne_eq not_false_eq_true not_true_eq_false true_and and_true and_self

def brow (its : List BatA) (j : Nat) : List Value := ((its[j]?).map BatA.l).getD []
theorem brow_eq {its : List BatA} {j : Nat} {x : BatA} (h : its[j]? = some x) : brow its j = x.l := by simp [brow, h]
theorem wv_rows {its : List BatA} {c : Nat} (hc : its.length ≤ c) : WV its (.s 2 0 its.length c) (.rows 108 6 its.length c fun j => (brow its j).map .v) :=
  .inr ⟨0, c, its.length, c, brow its, ⟨hc, by omega⟩, fun i x hx => by rw [Nat.zero_add]; exact brow_eq hx, rfl, rfl⟩
theorem WV.len {its : List BatA} {wv : CV} {wb : Blk} (h : WV its wv wb) (t : TypeId) (F : SV → Prop) : XLen (.slc t) (.c wv) F = F (.c (.v (.int .i64 its.length))) := by
  rcases h with ⟨rfl, rfl, _⟩ | ⟨o, c, m, cb, rv, _, _, rfl, _⟩ <;> rfl
theorem WV.ok {its : List BatA} {wv : CV} {wb : Blk} (h : WV its wv wb) : SV.ok (.c wv) = true := by
  rcases h with ⟨rfl, rfl, _⟩ | ⟨o, c, m, cb, rv, _, _, rfl, _⟩ <;> rfl
theorem WV.raw {its : List BatA} {wv : CV} {wb : Blk} (h : WV its wv wb) {m g e : Nat} (hm : m ≠ 2) : wv.raw m g e = wv ∧ wb.raw m g e = wb := by
  rcases h with ⟨rfl, rfl, rfl⟩ | ⟨o, c, m', cb, rv, _, _, rfl, rfl⟩
  · exact ⟨rfl, rfl⟩
  · exact ⟨by simp [CV.raw, Ne.symm hm], by simp [Blk.raw, rawL_v]⟩
theorem LV.raw {l : List Ver} {lv : CV} {lb : Blk} (h : LV l lv lb) {m g e : Nat} (hm : m ≠ 1) : lv.raw m g e = lv ∧ lb.raw m g e = lb := by
  rcases h with ⟨rfl, rfl, rfl⟩ | ⟨c, _, rfl, rfl⟩
  · exact ⟨rfl, rfl⟩
  · exact ⟨by simp [CV.raw, Ne.symm hm], by simp [Blk.raw, rawL_v]⟩
theorem LV.ok {l : List Ver} {lv : CV} {lb : Blk} (h : LV l lv lb) : SV.ok (.c lv) = true := by
  rcases h with ⟨rfl, rfl, _⟩ | ⟨c, _, rfl, _⟩ <;> rfl
theorem LV.one {l : List Ver} {lv : CV} {lb : Blk} (h : LV l lv lb) : one1 lv = true := by
  rcases h with ⟨rfl, rfl, _⟩ | ⟨c, _, rfl, _⟩ <;> rfl
theorem bq_nil (st : Stp) (b c : Nat) (w : World) : BatQ ⟨st, [], b, c⟩ [] w := by unfold BatQ; rfl
theorem bat_len {its : List BatA} {s : ShS} (h : its.map BatA.bat = s.w) : its.length = s.w.length := by rw [← h, List.length_map]
theorem w_app {its : List BatA} {x : BatA} {c : Nat} {r : Nat → List CV} (h : ∀ i, i < its.length → r i = (brow its i).map .v) (hl : r its.length = x.l.map .v) : ∀ i, i < (its ++ [x]).length → (brow (its ++ [x]) i).map .v = r i := fun i hi => by
  by_cases hil : i < its.length
  · rw [h i hil]
    unfold brow
    rw [List.getElem?_append_left hil]
  · have : i = its.length := by simp at hi; omega
    subst this
    rw [hl]
    unfold brow
    simp
theorem rdpush_end {C : Cx} {fp : List Nat} {w w' : World} {fr : List (Nat × SV)} {hp : List (Nat × Blk)} {nx : Nat} {ρ : Env} {a : Act} {g : Nat} (s : ShS) (st : Stp) (ws : List Wr) (b cb : Nat) (fb : List Nat) (hpb : s.pushB st ws = true) (hw : C.w0 = w) (hM : C.M = (· ∈ fp)) (hs : Sat C ⟨fr, hp, nx⟩ ρ a w') (hg : (ρ 0).blk = g) (hb : (ρ 0).base = 0) (hn0 : 3 < C.n0)
    {its : List BatA} {lv : CV} {lb : Blk} {fpb : List Nat} (hl : LV s.l lv lb) (hi : its.map BatA.bat = s.w) (q n c' : Nat) {r : Nat → List CV} (hq : 4 ≤ q) (hn : 4 ≤ n) (hnq : n ≠ q) (hc : its.length + 1 ≤ c')
    (h0 : hget hp 0 = some (rsO s (.s n 0 (its.length + 1) c') lv)) (h1 : hget hp 1 = some lb) (h2 : hget hp n = some (.rows 108 6 (its.length + 1) c' r)) (h3 : hget hp 3 = some (.pred fpb (All BatQ its fpb))) {R4 : World → Prop} (h4 : hget hp q = some (.pred fb R4)) (hB : ∀ w, R4 w → BatQ ⟨st, ws, b, cb⟩ fb w)
    (hr : ∀ i, i < its.length → r i = (brow its i).map .v) (hr2 : r its.length = (BatA.l ⟨st, ws, b, cb⟩).map .v) : ∃ fp', On g (RSd (s.push st ws)) fp' w' ∧ Chg fp fp' w w' := by
  have hw1 := hs.now.hp _ _ (mem_hget h4)
  have hw3 := hs.now.hp _ _ (mem_hget h3)
  have hnd : (fb ++ fpb).Nodup := List.nodup_append.2 ⟨hw1.2.2.1, hw3.2.2.1, fun k hk j hj e => foot_disj hs.now.nodup (mem_hget h4) (mem_hget h3) (by omega) hk (by rw [e]; exact hj)⟩
  have hall : All BatQ (its ++ [⟨st, ws, b, cb⟩]) (fb ++ fpb) w' := All.join (hB _ hw1.1) (by rw [List.append_nil]; exact hw3.1) hnd fun k hk => (hw1.2.2.2 k hk).1
  have hj := hs.join (n := q) (m := 3) (by omega) h4 h3 hall (All.stable BatQ.stable)
  have g0 : hget (hset (hrem hp 3) q (.pred (fb ++ fpb) (All BatQ (its ++ [⟨st, ws, b, cb⟩]) (fb ++ fpb)))) 0 = some (rsO s (.s n 0 (its.length + 1) c') lv) := by rw [hget_other (by omega), hget_hrem_ne (by omega)]; exact h0
  have g1 : hget (hset (hrem hp 3) q (.pred (fb ++ fpb) (All BatQ (its ++ [⟨st, ws, b, cb⟩]) (fb ++ fpb)))) 1 = some lb := by rw [hget_other (by omega), hget_hrem_ne (by omega)]; exact h1
  have g2 : hget (hset (hrem hp 3) q (.pred (fb ++ fpb) (All BatQ (its ++ [⟨st, ws, b, cb⟩]) (fb ++ fpb)))) n = some (.rows 108 6 (its.length + 1) c' r) := by rw [hget_other hnq, hget_hrem_ne (by omega)]; exact h2
  have g3 : hget (hset (hrem hp 3) q (.pred (fb ++ fpb) (All BatQ (its ++ [⟨st, ws, b, cb⟩]) (fb ++ fpb)))) q = some (.pred (fb ++ fpb) (All BatQ (its ++ [⟨st, ws, b, cb⟩]) (fb ++ fpb))) := hget_same _ (by rw [hget_hrem_ne (by omega)]; exact h4)
  have hlen : (its ++ [(⟨st, ws, b, cb⟩ : BatA)]).length = its.length + 1 := by simp
  obtain ⟨ρ2, hs2, hρ2⟩ := ent_rows n (r' := fun j => (brow (its ++ [⟨st, ws, b, cb⟩]) j).map .v) g2 (fun i hi => w_app (c := c') hr hr2 i (by rw [hlen]; exact hi)) ρ a w' hj
  have e0 := hρ2 0 (by omega)
  have hgo : ∀ k, k ≠ n → hget (hset (hset (hrem hp 3) q (.pred (fb ++ fpb) (All BatQ (its ++ [⟨st, ws, b, cb⟩]) (fb ++ fpb)))) n (.rows 108 6 (its.length + 1) c' fun j => (brow (its ++ [⟨st, ws, b, cb⟩]) j).map .v)) k = hget (hset (hrem hp 3) q (.pred (fb ++ fpb) (All BatQ (its ++ [⟨st, ws, b, cb⟩]) (fb ++ fpb)))) k := fun k hk => hget_other hk _ _
  have hsp : (s.push st ws).l = s.l := push_l s st ws
  refine rsd_end (s.push st ws) (fun k => if k = 2 then n else if k = 3 then q else k) hw hM hs2 ((congrArg Nm.blk e0).trans hg) ((congrArg Nm.base e0).trans hb) (its := its ++ [⟨st, ws, b, cb⟩]) (fpb := fb ++ fpb) (lv := lv) (lb := lb) (wv := .s 2 0 (its ++ [(⟨st, ws, b, cb⟩ : BatA)]).length c') (wb := .rows 108 6 (its ++ [(⟨st, ws, b, cb⟩ : BatA)]).length c' fun j => (brow (its ++ [⟨st, ws, b, cb⟩]) j).map .v) (by rw [hsp]; exact hl) (wv_rows (by rw [hlen]; exact hc)) ?_ ?_ ?_ ?_ ?_ ?_
  · rw [push_w, if_pos hpb, List.map_append, hi]; rfl
  · simp; omega
  · show hget _ 0 = _
    rw [hgo 0 (by omega), g0, hl.blk.2.2.2.2 _ rfl]
    simp only [rsO, push_ap, push_room, CV.rn, hlen]; rfl
  · show hget _ 1 = _
    rw [hgo 1 (by omega)]; exact g1
  · show hget _ n = _
    rw [hget_same _ g2, hlen]
  · show hget _ q = _
    rw [hgo q (Ne.symm hnq)]; exact g3
set_option maxHeartbeats 8000000 in
set_option maxRecDepth 100000 in
theorem rdpush_c (g : Nat) (s : ShS) (st : Stp) (ws : List Wr) (hlen : ws.length ≤ 1000) (hwl : s.w.length ≤ 1000) (fp : List Nat) (w : World) (h : On g (RSd s) fp w) (b o c : Nat) (hi : ImmAt w b o 4 ws.length (wrw ws)) (hb : 0 < ws.length → b ∉ fp) :
    Calls Try.prog 19 #[gptr g, st.val, wslv ws.length b o c] w (Turn g fp (.bool (s.pushB st ws)) (RSd (s.push st ws)) w) := by
  by_cases hw0 : ws = []
  · subst hw0
    refine on_calls h 49 _ Try.func19 rfl Try.ntmps19 Try.results19 [.c (.p 0 0 0), sst st.v.a st.v.b st.v.c st.v.d st.dc, .c (.v (.slice none 0 0))] (by simp) (fun ρ' h1 h2 => by simp [SV.denL, SV.den, CV.den, CV.denL, gptr, h1, h2, wslv, Stp.val, Stp.l]) (fun ρ nx hp hsh hg hb => ?_)
    obtain ⟨rfl, lv, lb, wv, wb, its, fpb, hL, hW, hi, rfl⟩ := hsh
    have hwl2 := bat_len hi
    have hlW := hW.len
    have okW := hW.ok
    have oneL := hL.one
    have fin : ∀ {fr hp nx} {ρ' : Env} {a : Act} {w' : World}, s.pushB st [] = false → Sat ⟨w, (· ∈ fp), 49, 4, ρ⟩ ⟨fr, hp, nx⟩ ρ' a w' → (∀ k, k < 4 → ρ' k = ρ k) → hget hp 0 = some (rsO s wv lv) → hget hp 1 = some lb → hget hp 2 = some wb → hget hp 3 = some (.pred fpb (All BatQ its fpb)) → ∃ fp', On g (RSd (s.push st [])) fp' w' ∧ Chg fp fp' w w' := fun hpb hs' hag h0 h1 h2 h3 => by
      rw [push_no hpb]
      exact rsd_end s id rfl rfl hs' ((congrArg Nm.blk (hag 0 (by omega))).trans hg) ((congrArg Nm.base (hag 0 (by omega))).trans hb) hL hW hi (by simp) (by rw [hW.blk.2.2.2.2 id rfl, hL.blk.2.2.2.2 id rfl]; exact h0) h1 h2 h3
    simp only [go_sem, rsO]
    refine sdraw [.t 0, .r 1, .t 2, .t 3, .t 4, .t 5, .t 6, .t 7, .t 8, .t 9, .t 10, .t 11, .t 12, .t 13, .t 14] 15 [(4, _), (0, _)] rfl (by kernel_rfl) ⟨rfl, rfl, trivial⟩ ?_
    simp only [go_sem]
    refine rsright_s ?_
    cases hr : Stp.right ⟨⟨st.v.a, st.v.b, st.v.c, st.v.d⟩, st.dc⟩
    · have hpb : s.pushB st [] = false := by unfold ShS.pushB; rw [show st.right = false from hr]; rfl
      simp (disch := omega) only [go_sem, wrapI64, wrapu64, wrapu32, wrapu8, ltT, ltF, leT, leF, eqF, eqT, nltT, nleT, neqFn]
      exact fun ρ' a w' hs' hag => by
        obtain ⟨fp', hon, hch⟩ := fin hpb hs' hag rfl rfl rfl rfl
        exact ⟨fp', by rw [hpb]; rfl, hon, hch⟩
    · have hpb : s.pushB st [] = decide (s.w.length < s.room) := by unfold ShS.pushB; rw [show st.right = true from hr]; simp
      by_cases hroom : its.length < s.room
      · have hpb1 : s.pushB st [] = true := by rw [hpb, ← hwl2]; simp [hroom]
        simp (disch := omega) only [go_sem, wrapI64, wrapu64, wrapu32, wrapu8, ltT, ltF, leT, leF, eqF, eqT, nltT, nleT, neqFn, hlW]
        refine sloop_rounds 1 ?_
        simp (disch := omega) only [go_sem, wrapI64, wrapu64, wrapu32, wrapu8, ltT, ltF, leT, leF, eqF, eqT, nltT, nleT, neqFn]
        rcases hW with ⟨rfl, rfl, rfl⟩ | ⟨o', c', m', cb', rv, hcc, hrv, rfl, rfl⟩
        · have hL := hL
          refine sdraw [.t 0, .t 1, .t 2, .t 3, .t 4, .t 6, .t 7, .r 5, .r 8, .t 9, .r 10, .r 11, .t 12, .t 13, .r 14] 14 [(4, _), (0, _)] rfl (by kernel_rfl) ⟨rfl, rfl, trivial⟩ ?_
          simp (disch := omega) only [go_sem, wrapI64, wrapu64, wrapu32, wrapu8, ltT, ltF, leT, leF, eqF, eqT, nltT, nleT, neqFn]
          refine sappend_none rfl rfl tkind75 tsz108 ⟨by show (40 : Nat) < 49; omega, ?_⟩
          simp (disch := omega) only [go_sem, wrapI64, wrapu64, wrapu32, wrapu8, ltT, ltF, leT, leF, eqF, eqT, nltT, nleT, neqFn]
          refine sappend_none rfl rfl tkind63 tsz71 ⟨by show (43 : Nat) < 49; omega, ?_⟩
          simp (disch := omega) only [go_sem, wrapI64, wrapu64, wrapu32, wrapu8, ltT, ltF, leT, leF, eqF, eqT, nltT, nleT, neqFn]
          refine sappend_nil rfl rfl tkind75 tsz108 tby108 tz108 rfl ⟨⟨rfl, by decide, by decide⟩, by decide, by decide, by decide⟩ ⟨by show (46 : Nat) < 49; omega, fun c2 hc2 => ?_⟩
          simp (disch := omega) only [go_sem, wrapI64, wrapu64, wrapu32, wrapu8, ltT, ltF, leT, leF, eqF, eqT, nltT, nleT, neqFn]
          refine fun ρ' a w' hs' hag => ?_
          have hs2 := hs'.addE (BatQ ⟨st, [], 0, 0⟩ []) (bq_nil st 0 0 _) (BatQ.stable _ _)
          obtain ⟨fp', hon, hch⟩ := rdpush_end s st [] 0 0 [] hpb1 rfl rfl hs2 ((congrArg Nm.blk (hag 0 (by show 0 < 4; omega))).trans hg) ((congrArg Nm.base (hag 0 (by show 0 < 4; omega))).trans hb) (by show 3 < 4; omega) hL hi 7 6 c2 (by omega) (by omega) (by omega) (by exact hc2) rfl rfl rfl rfl rfl (fun _ h => h) (fun i hi => absurd hi (by simp)) rfl
          exact ⟨fp', by rw [hpb1]; rfl, hon, hch⟩
        · rcases its with _ | ⟨it, its0⟩
          · refine sdraw [.t 0, .t 1, .t 2, .t 3, .t 4, .t 6, .t 7, .r 5, .r 8, .t 9, .r 10, .r 11, .t 12, .t 13, .r 14] 14 [(4, _), (0, _)] rfl (by kernel_rfl) ⟨rfl, rfl, trivial⟩ ?_
            simp (disch := omega) only [go_sem, wrapI64, wrapu64, wrapu32, wrapu8, ltT, ltF, leT, leF, eqF, eqT, nltT, nleT, neqFn]
            refine sappend_nk rfl rfl tkind75 tsz108 ⟨by show (40 : Nat) < 49; omega, ?_⟩
            simp (disch := omega) only [go_sem, wrapI64, wrapu64, wrapu32, wrapu8, ltT, ltF, leT, leF, eqF, eqT, nltT, nleT, neqFn]
            refine sappend_none rfl rfl tkind63 tsz71 ⟨by show (43 : Nat) < 49; omega, ?_⟩
            simp (disch := omega) only [go_sem, wrapI64, wrapu64, wrapu32, wrapu8, ltT, ltF, leT, leF, eqF, eqT, nltT, nleT, neqFn]
            refine sappend_nil rfl rfl tkind75 tsz108 tby108 tz108 rfl ⟨⟨rfl, by decide, by decide⟩, by decide, by decide, by decide⟩ ⟨by show (46 : Nat) < 49; omega, fun c2 hc2 => ?_⟩
            simp (disch := omega) only [go_sem, wrapI64, wrapu64, wrapu32, wrapu8, ltT, ltF, leT, leF, eqF, eqT, nltT, nleT, neqFn]
            refine fun ρ' a w' hs' hag => ?_
            have hs2 := hs'.addE (BatQ ⟨st, [], 0, 0⟩ []) (bq_nil st 0 0 _) (BatQ.stable _ _)
            obtain ⟨fp', hon, hch⟩ := rdpush_end s st [] 0 0 [] hpb1 rfl rfl hs2 ((congrArg Nm.blk (hag 0 (by show 0 < 4; omega))).trans hg) ((congrArg Nm.base (hag 0 (by show 0 < 4; omega))).trans hb) (by show 3 < 4; omega) hL hi 7 6 c2 (by omega) (by omega) (by omega) (by exact hc2) rfl rfl rfl rfl rfl (fun _ h => h) (fun i hi => absurd hi (by simp)) rfl
            exact ⟨fp', by rw [hpb1]; rfl, hon, hch⟩
          · obtain ⟨its, hits⟩ : ∃ its, its = it :: its0 := ⟨_, rfl⟩
            rw [← hits] at hi hwl2 hlW okW fin hroom hcc hrv ⊢
            have hip : 0 < its.length := by rw [hits]; simp
            refine sdraw [.t 0, .t 1, .t 2, .t 3, .t 4, .t 6, .t 7, .r 5, .r 8, .t 9, .r 10, .r 11, .t 12, .t 13, .r 14] 14 [(4, _), (0, _)] rfl (by kernel_rfl) ⟨rfl, rfl, trivial⟩ ?_
            simp (disch := omega) only [go_sem, wrapI64, wrapu64, wrapu32, wrapu8, ltT, ltF, leT, leF, eqF, eqT, nltT, nleT, neqFn]
            refine sappendR_nil (r2 := fun j => (rv j).map .v) (fun j => (brow its j).map .v) (fun i hi => by
              obtain ⟨x, hx⟩ : ∃ x, its[i]? = some x := ⟨_, List.getElem?_eq_getElem hi⟩
              rw [brow_eq hx, hrv i x hx]) rfl rfl tkind75 tsz108 tby108 tz108 rfl ⟨⟨rfl, by decide, hip⟩, by omega, by omega, by omega⟩ ⟨by show (40 : Nat) < 49; omega, fun c1 hc1 => ?_⟩
            simp (disch := omega) only [go_sem, wrapI64, wrapu64, wrapu32, wrapu8, ltT, ltF, leT, leF, eqF, eqT, nltT, nleT, neqFn]
            refine sappend_none rfl rfl tkind63 tsz71 ⟨by show (43 : Nat) < 49; omega, ?_⟩
            simp (disch := omega) only [go_sem, wrapI64, wrapu64, wrapu32, wrapu8, ltT, ltF, leT, leF, eqF, eqT, nltT, nleT, neqFn]
            refine sappend rfl rfl tkind75 tsz108 tby108 tz108 rfl rfl ⟨⟨rfl, by decide, by decide, Nat.le_refl _⟩, by decide, by omega, by omega⟩ (fun q hq => by
              have : q = 0 := by omega
              subst this; rfl) ⟨by show (46 : Nat) < 49; omega, fun c2 hc2 => ?_⟩
            simp (disch := omega) only [go_sem, wrapI64, wrapu64, wrapu32, wrapu8, ltT, ltF, leT, leF, eqF, eqT, nltT, nleT, neqFn]
            refine fun ρ' a w' hs' hag => ?_
            have hs2 := hs'.addE (BatQ ⟨st, [], 0, 0⟩ []) (bq_nil st 0 0 _) (BatQ.stable _ _)
            obtain ⟨fp', hon, hch⟩ := rdpush_end s st [] 0 0 [] hpb1 rfl rfl hs2 ((congrArg Nm.blk (hag 0 (by show 0 < 4; omega))).trans hg) ((congrArg Nm.base (hag 0 (by show 0 < 4; omega))).trans hb) (by show 3 < 4; omega) hL hi 8 7 c2 (by omega) (by omega) (by omega) (by exact hc2) rfl rfl rfl rfl rfl (fun _ h => h) (fun i hi => by simp only [rapp]; rw [if_pos hi]) (by simp only [rapp]; rw [if_neg (by omega), Nat.sub_self]; rfl)
            exact ⟨fp', by rw [hpb1]; rfl, hon, hch⟩
      · have hpb1 : s.pushB st [] = false := by rw [hpb, ← hwl2]; simp [hroom]
        simp (disch := omega) only [go_sem, wrapI64, wrapu64, wrapu32, wrapu8, ltT, ltF, leT, leF, eqF, eqT, nltT, nleT, neqFn, hlW]
        exact fun ρ' a w' hs' hag => by
          obtain ⟨fp', hon, hch⟩ := fin hpb1 hs' hag rfl rfl rfl rfl
          exact ⟨fp', by rw [hpb1]; rfl, hon, hch⟩
  · have hpos : 0 < ws.length := List.length_pos_iff.2 hw0
    refine on_callsI h hi hb 49 _ Try.func19 rfl Try.ntmps19 Try.results19 (fun k => [.c (.p 0 0 0), sst st.v.a st.v.b st.v.c st.v.d st.dc, .c (.s k 0 ws.length c)]) (by simp) (fun k ρ' h1 h2 h3 => by simp [SV.denL, SV.den, CV.den, CV.denL, gptr, h1, h2, h3, wslv, Stp.val, Stp.l, Nat.ne_of_gt hpos]) (fun ρ nx hp hsh hg hb hat => ?_)
    obtain ⟨rfl, lv, lb, wv, wb, its, fpb, hL, hW, hi, rfl⟩ := hsh
    have hwl2 := bat_len hi
    have hlW := hW.len
    have okW := hW.ok
    have oneL := hL.one
    have fin : ∀ {fr hp nx} {ρ' : Env} {a : Act} {w' : World}, s.pushB st ws = false → Sat ⟨w, (· ∈ fp), 49, 5, ρ⟩ ⟨fr, hp, nx⟩ ρ' a w' → (∀ k, k < 5 → ρ' k = ρ k) → hget hp 0 = some (rsO s wv lv) → hget hp 1 = some lb → hget hp 2 = some wb → hget hp 3 = some (.pred fpb (All BatQ its fpb)) → ∃ fp', On g (RSd (s.push st ws)) fp' w' ∧ Chg fp fp' w w' := fun hpb hs' hag h0 h1 h2 h3 => by
      rw [push_no hpb]
      exact rsd_end s id rfl rfl hs' ((congrArg Nm.blk (hag 0 (by omega))).trans hg) ((congrArg Nm.base (hag 0 (by omega))).trans hb) hL hW hi (by simp) (by rw [hW.blk.2.2.2.2 id rfl, hL.blk.2.2.2.2 id rfl]; exact h0) h1 h2 h3
    simp only [go_sem, rsO]
    refine sdraw [.t 0, .r 1, .t 2, .t 3, .t 4, .t 5, .t 6, .t 7, .t 8, .t 9, .t 10, .t 11, .t 12, .t 13, .t 14] 15 [(5, _), (0, _)] rfl (by kernel_rfl) ⟨rfl, rfl, trivial⟩ ?_
    simp only [go_sem]
    refine rsright_s ?_
    cases hr : Stp.right ⟨⟨st.v.a, st.v.b, st.v.c, st.v.d⟩, st.dc⟩
    · have hpb : s.pushB st ws = false := by unfold ShS.pushB; rw [show st.right = false from hr]; rfl
      simp (disch := omega) only [go_sem, wrapI64, wrapu64, wrapu32, wrapu8, ltT, ltF, leT, leF, eqF, eqT, nltT, nleT, neqFn]
      exact fun ρ' a w' hs' hag => by
        obtain ⟨fp', hon, hch⟩ := fin hpb hs' hag rfl rfl rfl rfl
        exact ⟨fp', by rw [hpb]; rfl, hon, hch⟩
    by_cases hroom : its.length < s.room
    case neg =>
      have hpb1 : s.pushB st ws = false := by unfold ShS.pushB; rw [← hwl2]; simp [hroom]
      simp (disch := omega) only [go_sem, wrapI64, wrapu64, wrapu32, wrapu8, ltT, ltF, leT, leF, eqF, eqT, nltT, nleT, neqFn, hlW]
      exact fun ρ' a w' hs' hag => by
        obtain ⟨fp', hon, hch⟩ := fin hpb1 hs' hag rfl rfl rfl rfl
        exact ⟨fp', by rw [hpb1]; rfl, hon, hch⟩
    simp (disch := omega) only [go_sem, wrapI64, wrapu64, wrapu32, wrapu8, ltT, ltF, leT, leF, eqF, eqT, nltT, nleT, neqFn, hlW]
    refine sloop (fun i : Nat => ⟨[(7, .c (ci i)), (4, .c (.p 5 0 0)), (2, .c (.s 4 0 ws.length c)), (0, .c (.p 0 0 0))], [(5, .cells 61 [cu st.v.a, cu st.v.b, cu st.v.c, cu st.v.d, ci st.dc]), (4, .imm 4 ws.length fun i => (wrw ws i).map .v), (0, rsO s wv lv), (1, lb), (2, wb), (3, .pred fpb (All BatQ its fpb))], 6⟩) (fun i => i ≤ ws.length ∧ ∀ q y, q < i → ws[q]? = some y → y.right = true) (fun i => ws.length - i) 0
      ⟨Nat.zero_le _, fun q y hq => by omega⟩ (ent_drop ⟨rfl, rfl, rfl, rfl, trivial⟩ ⟨rfl, rfl, rfl, rfl, rfl, rfl, trivial⟩ (by simp)) (fun i hi2 => ?_)
    obtain ⟨hi2, hok⟩ : i ≤ ws.length ∧ ∀ q y, q < i → ws[q]? = some y → y.right = true := hi2
    rcases Nat.lt_or_ge i ws.length with hil | hil
    · obtain ⟨y, hy⟩ : ∃ y, ws[i]? = some y := ⟨_, List.getElem?_eq_getElem hil⟩
      have hrow : (wrw ws i).map CV.v = y.c := by rw [wrw_eq hy]; rfl
      simp (disch := omega) only [go_sem, wrapI64, wrapu64, wrapu32, wrapu8, ltT, ltF, leT, leF, eqF, eqT, nltT, nleT, neqFn, hrow, rsO]
      refine r8right_s y ?_
      cases hyr : y.right
      · have hpb1 : s.pushB st ws = false := by
          have : (ws.any fun x => !x.right) = true := List.any_eq_true.2 ⟨y, List.mem_of_getElem? hy, by simp [hyr]⟩
          unfold ShS.pushB; rw [this]; simp
        simp (disch := omega) only [go_sem, wrapI64, wrapu64, wrapu32, wrapu8, ltT, ltF, leT, leF, eqF, eqT, nltT, nleT, neqFn]
        exact fun ρ' a w' hs' hag => by
          obtain ⟨fp', hon, hch⟩ := fin hpb1 hs' hag rfl rfl rfl rfl
          exact ⟨fp', by rw [hpb1]; rfl, hon, hch⟩
      · simp (disch := omega) only [go_sem, wrapI64, wrapu64, wrapu32, wrapu8, ltT, ltF, leT, leF, eqF, eqT, nltT, nleT, neqFn]
        refine ⟨i + 1, ⟨hil, fun q z hq hz => ?_⟩, by omega, ent_drop ⟨rfl, rfl, rfl, rfl, trivial⟩ ⟨rfl, rfl, rfl, rfl, rfl, rfl, trivial⟩ (by simp)⟩
        rcases Nat.lt_or_ge q i with hqi | hqi
        · exact hok q z hqi hz
        · have : q = i := by omega
          rw [this, hy] at hz; injection hz with hz; rw [← hz]; exact hyr
    · have hie : i = ws.length := by omega
      subst hie
      have hpb1 : s.pushB st ws = true := by
        have : (ws.any fun x => !x.right) = false := List.any_eq_false.2 fun x hx => by
          obtain ⟨q, hq⟩ := List.mem_iff_getElem?.1 hx
          rw [hok q x (List.getElem?_eq_some_iff.1 hq).1 hq]; simp
        unfold ShS.pushB; rw [this, show st.right = true from hr, ← hwl2]; simp [hroom]
      simp (disch := omega) only [go_sem, wrapI64, wrapu64, wrapu32, wrapu8, ltT, ltF, leT, leF, eqF, eqT, nltT, nleT, neqFn, rsO]
      rcases hW with ⟨rfl, rfl, rfl⟩ | ⟨o', c', m', cb', rv, hcc, hrv, rfl, rfl⟩
      · have hL := hL
        have hip : True := trivial
        refine sdraw [.t 0, .t 1, .t 2, .t 3, .t 4, .t 6, .t 7, .r 5, .r 8, .t 9, .r 10, .r 11, .t 12, .t 13, .r 14] 14 [(4, _), (5, _), (0, _)] rfl (by kernel_rfl) ⟨rfl, rfl, rfl, trivial⟩ ?_
        simp (disch := omega) only [go_sem, wrapI64, wrapu64, wrapu32, wrapu8, ltT, ltF, leT, leF, eqF, eqT, nltT, nleT, neqFn]
        refine sappend_none rfl rfl tkind75 tsz108 ⟨by show (40 : Nat) < 49; omega, ?_⟩
        simp (disch := omega) only [go_sem, wrapI64, wrapu64, wrapu32, wrapu8, ltT, ltF, leT, leF, eqF, eqT, nltT, nleT, neqFn]
        refine sappendR_nil (r2 := fun j => (wrw ws j).map .v) (fun j => (wrw ws j).map .v) (fun i hi => by rw [Nat.zero_add]) rfl rfl tkind63 tsz71 tby71 tz71 rfl ⟨⟨rfl, by decide, hpos⟩, by omega, by omega, by omega⟩ ⟨by show (43 : Nat) < 49; omega, fun c3 hc3 => ?_⟩
        simp (disch := omega) only [go_sem, wrapI64, wrapu64, wrapu32, wrapu8, ltT, ltF, leT, leF, eqF, eqT, nltT, nleT, neqFn]
        refine sappend_nil rfl rfl tkind75 tsz108 tby108 tz108 rfl ⟨⟨rfl, by decide, by decide⟩, by decide, by decide, by decide⟩ ⟨by show (46 : Nat) < 49; omega, fun c2 hc2 => ?_⟩
        simp (disch := omega) only [go_sem, wrapI64, wrapu64, wrapu32, wrapu8, ltT, ltF, leT, leF, eqF, eqT, nltT, nleT, neqFn]
        refine fun ρ' a w' hs' hag => ?_
        have hs2 := hs'.freeze 6 (wrw ws) rfl (fun i _ => rfl)
        have e1 := hL.raw (m := 6) (g := (ρ' 6).blk) (e := 4) (by omega)
        obtain ⟨fp', hon, hch⟩ := rdpush_end s st ws (ρ' 6).blk c3 [(ρ' 6).blk] hpb1 rfl rfl hs2 ((congrArg Nm.blk (hag 0 (by show 0 < 5; omega))).trans hg) ((congrArg Nm.base (hag 0 (by show 0 < 5; omega))).trans hb) (by show 3 < 5; omega) hL hi 6 8 c2 (by omega) (by omega) (by omega) (by exact hc2) (by show some (Blk.cells _ [_, _, lv.raw _ _ _, _, _, _, _]) = _; rw [e1.1]; rfl) (by show some (lb.raw _ _ _) = _; rw [e1.2]) rfl rfl rfl (fun w h => by unfold BatQ; rw [if_neg (Nat.ne_of_gt hpos)]; exact ⟨rfl, hc3, h⟩) (fun i hi => absurd hi (by simp)) (by simp [CV.rawL, CV.raw, BatA.l, slb, Nat.ne_of_gt hpos])
        exact ⟨fp', by rw [hpb1]; rfl, hon, hch⟩
      · rcases its with _ | ⟨it, its0⟩
        · refine sdraw [.t 0, .t 1, .t 2, .t 3, .t 4, .t 6, .t 7, .r 5, .r 8, .t 9, .r 10, .r 11, .t 12, .t 13, .r 14] 14 [(4, _), (5, _), (0, _)] rfl (by kernel_rfl) ⟨rfl, rfl, rfl, trivial⟩ ?_
          simp (disch := omega) only [go_sem, wrapI64, wrapu64, wrapu32, wrapu8, ltT, ltF, leT, leF, eqF, eqT, nltT, nleT, neqFn]
          refine sappend_nk rfl rfl tkind75 tsz108 ⟨by show (40 : Nat) < 49; omega, ?_⟩
          simp (disch := omega) only [go_sem, wrapI64, wrapu64, wrapu32, wrapu8, ltT, ltF, leT, leF, eqF, eqT, nltT, nleT, neqFn]
          refine sappendR_nil (r2 := fun j => (wrw ws j).map .v) (fun j => (wrw ws j).map .v) (fun i hi => by rw [Nat.zero_add]) rfl rfl tkind63 tsz71 tby71 tz71 rfl ⟨⟨rfl, by decide, hpos⟩, by omega, by omega, by omega⟩ ⟨by show (43 : Nat) < 49; omega, fun c3 hc3 => ?_⟩
          simp (disch := omega) only [go_sem, wrapI64, wrapu64, wrapu32, wrapu8, ltT, ltF, leT, leF, eqF, eqT, nltT, nleT, neqFn]
          refine sappend_nil rfl rfl tkind75 tsz108 tby108 tz108 rfl ⟨⟨rfl, by decide, by decide⟩, by decide, by decide, by decide⟩ ⟨by show (46 : Nat) < 49; omega, fun c2 hc2 => ?_⟩
          simp (disch := omega) only [go_sem, wrapI64, wrapu64, wrapu32, wrapu8, ltT, ltF, leT, leF, eqF, eqT, nltT, nleT, neqFn]
          refine fun ρ' a w' hs' hag => ?_
          have hs2 := hs'.freeze 6 (wrw ws) rfl (fun i _ => rfl)
          have e1 := hL.raw (m := 6) (g := (ρ' 6).blk) (e := 4) (by omega)
          obtain ⟨fp', hon, hch⟩ := rdpush_end s st ws (ρ' 6).blk c3 [(ρ' 6).blk] hpb1 rfl rfl hs2 ((congrArg Nm.blk (hag 0 (by show 0 < 5; omega))).trans hg) ((congrArg Nm.base (hag 0 (by show 0 < 5; omega))).trans hb) (by show 3 < 5; omega) hL hi 6 8 c2 (by omega) (by omega) (by omega) (by exact hc2) (by show some (Blk.cells _ [_, _, lv.raw _ _ _, _, _, _, _]) = _; rw [e1.1]; rfl) (by show some (lb.raw _ _ _) = _; rw [e1.2]) rfl rfl rfl (fun w h => by unfold BatQ; rw [if_neg (Nat.ne_of_gt hpos)]; exact ⟨rfl, hc3, h⟩) (fun i hi => absurd hi (by simp)) (by simp [CV.rawL, CV.raw, BatA.l, slb, Nat.ne_of_gt hpos])
          exact ⟨fp', by rw [hpb1]; rfl, hon, hch⟩
        · obtain ⟨its, hits⟩ : ∃ its, its = it :: its0 := ⟨_, rfl⟩
          rw [← hits] at hi hwl2 hlW okW fin hroom hcc hrv ⊢
          have hip : 0 < its.length := by rw [hits]; simp
          refine sdraw [.t 0, .t 1, .t 2, .t 3, .t 4, .t 6, .t 7, .r 5, .r 8, .t 9, .r 10, .r 11, .t 12, .t 13, .r 14] 14 [(4, _), (5, _), (0, _)] rfl (by kernel_rfl) ⟨rfl, rfl, rfl, trivial⟩ ?_
          simp (disch := omega) only [go_sem, wrapI64, wrapu64, wrapu32, wrapu8, ltT, ltF, leT, leF, eqF, eqT, nltT, nleT, neqFn]
          refine sappendR_nil (r2 := fun j => (rv j).map .v) (fun j => (brow its j).map .v) (fun i hi => by
            obtain ⟨x, hx⟩ : ∃ x, its[i]? = some x := ⟨_, List.getElem?_eq_getElem hi⟩
            rw [brow_eq hx, hrv i x hx]) rfl rfl tkind75 tsz108 tby108 tz108 rfl ⟨⟨rfl, by decide, hip⟩, by omega, by omega, by omega⟩ ⟨by show (40 : Nat) < 49; omega, fun c1 hc1 => ?_⟩
          simp (disch := omega) only [go_sem, wrapI64, wrapu64, wrapu32, wrapu8, ltT, ltF, leT, leF, eqF, eqT, nltT, nleT, neqFn]
          refine sappendR_nil (r2 := fun j => (wrw ws j).map .v) (fun j => (wrw ws j).map .v) (fun i hi => by rw [Nat.zero_add]) rfl rfl tkind63 tsz71 tby71 tz71 rfl ⟨⟨rfl, by decide, hpos⟩, by omega, by omega, by omega⟩ ⟨by show (43 : Nat) < 49; omega, fun c3 hc3 => ?_⟩
          simp (disch := omega) only [go_sem, wrapI64, wrapu64, wrapu32, wrapu8, ltT, ltF, leT, leF, eqF, eqT, nltT, nleT, neqFn]
          refine sappend rfl rfl tkind75 tsz108 tby108 tz108 rfl rfl ⟨⟨rfl, by decide, by decide, Nat.le_refl _⟩, by decide, by omega, by omega⟩ (fun q hq => by
            have : q = 0 := by omega
            subst this; rfl) ⟨by show (46 : Nat) < 49; omega, fun c2 hc2 => ?_⟩
          simp (disch := omega) only [go_sem, wrapI64, wrapu64, wrapu32, wrapu8, ltT, ltF, leT, leF, eqF, eqT, nltT, nleT, neqFn]
          refine fun ρ' a w' hs' hag => ?_
          have hs2 := hs'.freeze 7 (wrw ws) rfl (fun i _ => rfl)
          have e1 := hL.raw (m := 7) (g := (ρ' 7).blk) (e := 4) (by omega)
          obtain ⟨fp', hon, hch⟩ := rdpush_end s st ws (ρ' 7).blk c3 [(ρ' 7).blk] hpb1 rfl rfl hs2 ((congrArg Nm.blk (hag 0 (by show 0 < 5; omega))).trans hg) ((congrArg Nm.base (hag 0 (by show 0 < 5; omega))).trans hb) (by show 3 < 5; omega) hL hi 7 9 c2 (by omega) (by omega) (by omega) (by exact hc2) (by show some (Blk.cells _ [_, _, lv.raw _ _ _, _, _, _, _]) = _; rw [e1.1]; rfl) (by show some (lb.raw _ _ _) = _; rw [e1.2]) rfl rfl rfl (fun w h => by unfold BatQ; rw [if_neg (Nat.ne_of_gt hpos)]; exact ⟨rfl, hc3, h⟩) (fun i hi => by show CV.rawL _ _ _ (rapp _ _ _ _) = _; simp only [rapp]; rw [if_pos hi]; exact rawL_v _) (by show CV.rawL _ _ _ (rapp _ _ _ _) = _; simp only [rapp]; rw [if_neg (by omega), Nat.sub_self]; simp [CV.rawL, CV.raw, BatA.l, slb, Nat.ne_of_gt hpos])
          exact ⟨fp', by rw [hpb1]; rfl, hon, hch⟩
end Go.Proofs.Ytagjblkfgjcmnaa
namespace Go.Proofs.Ytagjblkfgjcmnaa
open Go.RowKit Go.Sx CW
attribute [local go_sem ↓] reduceIte
attribute [local go_sem] Nat.reduceEqDiff Nat.reduceLT Nat.reduceLeDiff Nat.reduceAdd Nat.reduceMul Nat.reduceSub Nat.reduceDiv Nat.reduceMod Int.reduceToNat Int.reduceLT Int.reduceLE Int.reduceAdd Int.reduceSub Int.reduceMul Int.reduceEq Int.reduceNeg reduceCtorEq or_false false_or decide_true decide_false Int.cast_ofNat_Int Nat.zero_add Nat.add_zero Int.toNat_natCast Option.isNone_none Option.isNone_some Bool.not_true Bool.not_false Bool.xor_true Bool.xor_false Bool.true_xor Bool.false_xor Bool.and_true Bool.true_and Bool.and_false Bool.false_and eq_self ne_eq not_false_eq_true not_true_eq_false true_and and_true and_self

theorem addV_no {l : List Ver} (h : WfL l) {st : Stp} (hr : st.right = true) {x : Wr} (ha : l.any (fun v => decide (Ver.ky v = x.kk ∧ v.st = st)) = true) : addV st l x = l := by rw [addV_any h hr, ha]; rfl
theorem addV_yes {l : List Ver} (h : WfL l) {st : Stp} (hr : st.right = true) {x : Wr} (ha : l.any (fun v => decide (Ver.ky v = x.kk ∧ v.st = st)) = false) : addV st l x = l ++ [⟨st, x⟩] := by rw [addV_any h hr, ha]; rfl
section
variable {C : Cx} {fr : List (Nat × SV)} {hp : List (Nat × Blk)} {nx : Nat} {d : Option Tmp} {K : St → Prop}
set_option maxHeartbeats 4000000 in
set_option maxRecDepth 100000 in
theorem rdadd_s (n T : Nat) {l : List Ver} {lv a0 a1 b0 b1 b2 b3 : CV} {lb : Blk} (hwf : WfL l) (hl : l.length ≤ 100000) (st : Stp) (x : Wr) (hr : st.right = true) (h0 : hget hp n = some (.cells 78 [a0, a1, lv, b0, b1, b2, b3])) (hT : hget hp T = some lb) (hne : n ≠ T) (hS : SL T 111 9 (vrow l) l.length lv lb) (hd : dOk C.N d)
    (hK0 : addV st l x = l → ∀ nx', nx ≤ nx' → kput K ⟨fr, hp, nx'⟩ d (.tup []))
    (hK1 : addV st l x = l ++ [⟨st, x⟩] → ∀ m c nx', nx ≤ m → m < nx' → l.length + 1 ≤ c → kput K ⟨fr, (m, .rows 111 9 (l.length + 1) c fun j => (vrow (l ++ [⟨st, x⟩]) j).map .v) :: hset (hrem hp T) n (.cells 78 [a0, a1, .s m 0 (l.length + 1) c, b0, b1, b2, b3]), nx'⟩ d (.tup [])) :
    SCall Try.prog C 41 [.c (.p n 0 0), .agg (⟨st, x⟩ : Ver).c] d K ⟨fr, hp, nx⟩ := by
  refine scall_post ?_
  refine scall_names rfl fun hnm honce => ?_
  have l0 := hget_lt hnm h0
  have lT := hget_lt hnm hT
  have hlen := hS.len
  have hok := hS.ok
  refine scall_in 65 _ Try.func41 rfl Try.ntmps41 Try.results41 Try.call41 (by simp only [go_sem, hd, Ver.c]) (fun _ _ => ?_)
  have g0 : ∀ b, hget ((nx, b) :: hp) n = hget hp n := fun b => by rw [hget_cons, if_neg (by omega)]
  have gT : ∀ b, hget ((nx, b) :: hp) T = hget hp T := fun b => by rw [hget_cons, if_neg (by omega)]
  have e0 : hrem hp nx = hp := hrem_none hnm
  have e1 : hrem hp (nx + 1) = hp := hrem_none fun m b hm => Nat.lt_succ_of_lt (hnm m b hm)
  have hH : ∀ c, (∀ m b, (m, b) ∈ hset (hrem hp T) n (.cells 78 [a0, a1, c, b0, b1, b2, b3]) → m < nx) := fun c m b hm => by
    have : m ∈ (hset (hrem hp T) n (.cells 78 [a0, a1, c, b0, b1, b2, b3])).map (·.1) := List.mem_map.2 ⟨_, hm, rfl⟩
    rw [hset_names] at this
    obtain ⟨⟨m', b'⟩, h3, h4⟩ := List.mem_map.1 this
    exact h4 ▸ hnm _ _ (hrem_mem h3).1
  have g0' : hget (hrem hp T) n = hget hp n := hget_hrem_ne hne hp
  have stay : addV st l x = l → ∀ fr' : List (Nat × SV), kput (fun st' => ∃ st2, (∀ ρ a w, Sat C st' ρ a w → Sat C st2 ρ a w) ∧ st'.nx ≤ st2.nx ∧ K st2) ⟨fr, (nx, .cells 111 (⟨st, x⟩ : Ver).c) :: hp, nx + 1⟩ d (.tup []) := fun he _ => by
    have hk := hK0 he (nx + 1) (by omega)
    exact ⟨_, fun ρ a w hs => by
      rcases d with _ | d
      · exact hs.tail
      · exact hs.tail, by rcases d with _ | d <;> exact Nat.le_refl _, hk⟩
  have went : addV st l x = l ++ [⟨st, x⟩] → ∀ (c : Nat) (bs : Blk), l.length + 1 ≤ c → kput (fun st' => ∃ st2, (∀ ρ a w, Sat C st' ρ a w → Sat C st2 ρ a w) ∧ st'.nx ≤ st2.nx ∧ K st2) ⟨fr, (nx + 2, .rows 111 9 (l.length + 1) c fun j => (vrow (l ++ [⟨st, x⟩]) j).map .v) :: (nx + 1, bs) :: (nx, .cells 111 (⟨st, x⟩ : Ver).c) :: hset (hrem hp T) n (.cells 78 [a0, a1, .s (nx + 2) 0 (l.length + 1) c, b0, b1, b2, b3]), nx + 3⟩ d (.tup []) := fun he c bs hc => by
    have hk := hK1 he (nx + 2) c (nx + 3) (by omega) (by omega) hc
    have q1 : ∀ R, hrem (hrem ((nx + 2, R) :: (nx + 1, bs) :: (nx, .cells 111 (⟨st, x⟩ : Ver).c) :: hset (hrem hp T) n (.cells 78 [a0, a1, .s (nx + 2) 0 (l.length + 1) c, b0, b1, b2, b3])) (nx + 1)) nx = (nx + 2, R) :: hset (hrem hp T) n (.cells 78 [a0, a1, .s (nx + 2) 0 (l.length + 1) c, b0, b1, b2, b3]) := fun R => by
      have z1 := hrem_none (n := nx) (hH (.s (nx + 2) 0 (l.length + 1) c))
      have z2 := hrem_none (n := nx + 1) (hp := hset (hrem hp T) n (.cells 78 [a0, a1, .s (nx + 2) 0 (l.length + 1) c, b0, b1, b2, b3])) fun m b hm => Nat.lt_succ_of_lt (hH _ m b hm)
      generalize hset (hrem hp T) n (.cells 78 [a0, a1, .s (nx + 2) 0 (l.length + 1) c, b0, b1, b2, b3]) = X at z1 z2 ⊢
      have y1 : ∀ Y : Blk, hrem ((nx + 2, R) :: (nx + 1, bs) :: (nx, Y) :: X) (nx + 1) = (nx + 2, R) :: (nx, Y) :: X := fun Y => by
        rw [hrem, if_neg (by omega), hrem, if_pos rfl, hrem, if_neg (by omega), z2]
      rw [y1, hrem, if_neg (by omega), hrem, if_pos rfl, z1]
    exact ⟨_, fun ρ a w hs => by
      rcases d with _ | d
      · have := (hs.rem (nx + 1)).rem nx
        rw [q1] at this; exact this
      · have := (hs.rem (nx + 1)).rem nx
        rw [q1] at this; exact this, by rcases d with _ | d <;> exact Nat.le_refl _, hk⟩
  simp (disch := omega) only [go_sem, wrapI64, wrapu64, wrapu32, wrapu8, ltT, ltF, leT, leF, eqF, eqT, nltT, nleT, neqFn, Ver.c]
  refine sloop (fun i : Nat => ⟨[(0, .c (.p n 0 0)), (3, .c (.p nx 0 0)), (4, .c (ci i))], (nx, .cells 111 (⟨st, x⟩ : Ver).c) :: hp, nx + 1⟩) (fun k => k ≤ l.length ∧ ∀ q : Nat, q < k → ∀ y : Ver, l[q]? = some y → ¬ (Ver.ky y = x.kk ∧ y.st = st)) (fun k => l.length - k) 0 ⟨Nat.zero_le _, fun q hq => by omega⟩ (ent_fr ⟨rfl, rfl, rfl, trivial⟩) (fun k hk => ?_)
  obtain ⟨hk, hlo⟩ : k ≤ l.length ∧ ∀ q : Nat, q < k → ∀ y : Ver, l[q]? = some y → ¬ (Ver.ky y = x.kk ∧ y.st = st) := hk
  rcases Nat.lt_or_ge k l.length with hkl | hkl
  · have hS2 := hS
    rcases hS with ⟨hz, rfl, rfl⟩ | ⟨c, hc, rfl, rfl⟩
    · omega
    obtain ⟨y, hy⟩ : ∃ y, l[k]? = some y := ⟨_, List.getElem?_eq_getElem hkl⟩
    have hrow := vrow_eq hy
    have hdec := stp_dec y.st st
    cases he : decide (y.st = st) <;> cases hbb : decide (y.x.b = x.b) <;> cases hkk : decide (y.x.k = x.k) <;> rw [he] at hdec
    case true.true.true =>
      have hany : l.any (fun v => decide (Ver.ky v = x.kk ∧ v.st = st)) = true := List.any_eq_true.2 ⟨y, List.mem_of_getElem? hy, by
        rw [decide_eq_true_eq] at he hbb hkk ⊢
        exact ⟨by show (y.x.b, y.x.k) = (x.b, x.k); rw [hbb, hkk], he⟩⟩
      simp (disch := omega) only [go_sem, wrapI64, wrapu64, wrapu32, wrapu8, ltT, ltF, leT, leF, eqF, eqT, nltT, nleT, neqFn, Ver.c, h0]
      refine sdraw [.t 0, .t 1, .t 2, .t 3, .t 4, .t 5, .t 6, .t 7, .t 8, .t 9, .t 10, .t 11, .t 12, .t 13, .t 14, .t 15, .t 16, .t 17, .t 18, .t 19, .t 20, .t 21, .t 22, .t 23, .t 24, .t 25, .t 26, .t 27, .t 28, .t 29, .t 30, .t 31, .t 32, .t 33, .t 34, .t 35, .t 36, .t 37, .t 38, .t 39, .t 40] 41 [(nx, _), (n, _), (T, _)] rfl (by kernel_rfl) ⟨by rw [hget_cons, if_pos rfl], (g0 _).trans h0, (gT _).trans hT, trivial⟩ ?_
      simp (disch := omega) only [go_sem, wrapI64, wrapu64, wrapu32, wrapu8, ltT, ltF, leT, leF, eqF, eqT, nltT, nleT, neqFn, Ver.c, hrow, hdec, hbb, hkk]
      exact stay (addV_no hwf hr hany) []
    all_goals
      have hno : ¬ (Ver.ky y = x.kk ∧ y.st = st) := fun ⟨h1, h2⟩ => by
        injection h1 with h3 h4
        simp [h2, h3, h4] at he hbb hkk
      simp (disch := omega) only [go_sem, wrapI64, wrapu64, wrapu32, wrapu8, ltT, ltF, leT, leF, eqF, eqT, nltT, nleT, neqFn, Ver.c, h0]
      refine sdraw [.t 0, .t 1, .t 2, .t 3, .t 4, .t 5, .t 6, .t 7, .t 8, .t 9, .t 10, .t 11, .t 12, .t 13, .t 14, .t 15, .t 16, .t 17, .t 18, .t 19, .t 20, .t 21, .t 22, .t 23, .t 24, .t 25, .t 26, .t 27, .t 28, .t 29, .t 30, .t 31, .t 32, .t 33, .t 34, .t 35, .t 36, .t 37, .t 38, .t 39, .t 40] 41 [(nx, _), (n, _), (T, _)] rfl (by kernel_rfl) ⟨by rw [hget_cons, if_pos rfl], (g0 _).trans h0, (gT _).trans hT, trivial⟩ ?_
      simp (disch := omega) only [go_sem, wrapI64, wrapu64, wrapu32, wrapu8, ltT, ltF, leT, leF, eqF, eqT, nltT, nleT, neqFn, Ver.c, hrow, hdec, hbb, hkk]
      refine ⟨k + 1, ⟨hkl, fun q hq z hz => ?_⟩, by omega, ent_fr ⟨rfl, rfl, rfl, trivial⟩⟩
      rcases Nat.lt_or_ge q k with hqk | hqk
      · exact hlo q hqk z hz
      · have : q = k := by omega
        rw [this, hy] at hz; injection hz with hz; rw [← hz]; exact hno
  · have hkm : k = l.length := by omega
    subst hkm
    have hany : l.any (fun v => decide (Ver.ky v = x.kk ∧ v.st = st)) = false := by
      rw [List.any_eq_false]
      intro y hy hh
      obtain ⟨q, hq⟩ := List.mem_iff_getElem?.1 hy
      exact hlo q (List.getElem?_eq_some_iff.1 hq).1 y hq (of_decide_eq_true hh)
    have hadd := addV_yes hwf hr hany
    simp (disch := omega) only [go_sem, wrapI64, wrapu64, wrapu32, wrapu8, ltT, ltF, leT, leF, eqF, eqT, nltT, nleT, neqFn, Ver.c, h0, hlen]
    refine sdraw [.t 0, .t 1, .t 2, .t 3, .t 4, .t 5, .r 6, .r 7, .t 8, .t 9, .r 10] 10 [(nx, _), (n, _)] rfl (by kernel_rfl) ⟨by rw [hget_cons, if_pos rfl], (g0 _).trans h0, trivial⟩ ?_
    simp (disch := omega) only [go_sem, wrapI64, wrapu64, wrapu32, wrapu8, ltT, ltF, leT, leF, eqF, eqT, nltT, nleT, neqFn, Ver.c, h0, hok]
    refine sappendSL T (vrow (l ++ [⟨st, x⟩])) rfl rfl tkind76 tsz111 tby111 tz111 hS (by rw [hget_cons, if_neg (by omega), hget_cons, if_neg (by omega)]; exact hT) (by omega) (by rw [hget_cons, if_pos rfl]; rfl) ⟨⟨rfl, by decide, by decide⟩, by decide, by omega, by omega⟩ (fun i hi => vrow_app hi) (fun i hi => by
      have : i = 0 := by omega
      subst this; simp only [Nat.add_zero]; rw [vrow_last]; rfl) (fun i hi => by
      have : i = 0 := by omega
      subst this; simp only [Nat.add_zero]; rw [vrow_last]; rfl) ⟨by show (62 : Nat) < 65; omega, fun c' hc' => ?_⟩
    rw [hrem, if_neg (by omega), hrem, if_neg (by omega)]
    simp (disch := omega) only [go_sem, wrapI64, wrapu64, wrapu32, wrapu8, ltT, ltF, leT, leF, eqF, eqT, nltT, nleT, neqFn, h0, g0']
    exact went hadd c' _ hc'
end
end Go.Proofs.Ytagjblkfgjcmnaa
namespace Go.Proofs.Ytagjblkfgjcmnaa
open Go.RowKit Go.Sx CW
attribute [local go_sem ↓] reduceIte
attribute [local go_sem] Nat.reduceEqDiff Nat.reduceLT Nat.reduceLeDiff Nat.reduceAdd Nat.reduceMul Nat.reduceSub Nat.reduceDiv Nat.reduceMod Int.reduceToNat Int.reduceLT Int.reduceLE Int.reduceAdd Int.reduceSub Int.reduceMul Int.reduceEq Int.reduceNeg reduceCtorEq or_false false_or decide_true decide_false Int.cast_ofNat_Int Nat.zero_add Nat.add_zero Int.toNat_natCast Option.isNone_none Option.isNone_some Bool.not_true Bool.not_false Bool.xor_true Bool.xor_false Bool.true_xor Bool.false_xor Bool.and_true Bool.true_and Bool.and_false Bool.false_and eq_self ne_eq not_false_eq_true not_true_eq_false true_and and_true and_self

theorem rwith_c (x : V4) (n m : Int) (w : World) : Calls Try.prog 43 #[x.v, .int .i64 n, vu m] w fun e w' => e = .returned (x.wth n m).v ∧ Below w.heap.size w w' := by
  obtain ⟨a0, a1, a2, a3⟩ := x
  refine calls_pure 18 _ Try.func43 rfl Try.ntmps43 Try.results43 [sv4 a0 a1 a2 a3, .c (.v (.int .i64 n)), .c (cu m)] (by simp) (fun _ => rfl) ?_
  by_cases h : n = 1 ∨ n = 2 ∨ n = 3 ∨ n = 4
  · rcases h with rfl | rfl | rfl | rfl
    all_goals
      simp only [go_sem]
      exact fun ρ a w hs _ => ⟨rfl, hs.grown⟩
  · have e : V4.wth ⟨a0, a1, a2, a3⟩ n m = ⟨a0, a1, a2, a3⟩ := by simp only [V4.wth]; split <;> (try split) <;> (try split) <;> (try split) <;> first | rfl | omega
    rw [e]
    cases h1 : decide (1 ≤ n)
    · simp only [go_sem, h1]
      exact fun ρ a w hs _ => ⟨rfl, hs.grown⟩
    · have h2 : decide (n ≤ 4) = false := by simp at h1 ⊢; omega
      simp only [go_sem, h1, h2]
      exact fun ρ a w hs _ => ⟨rfl, hs.grown⟩
section
variable {C : Cx} {fr : List (Nat × SV)} {hp : List (Nat × Blk)} {nx : Nat} {d : Option Tmp} {K : St → Prop}
theorem rwith_s {x : V4} {n m : Int} (h : dOk C.N d ∧ kput K ⟨fr, hp, nx⟩ d (x.wth n m).sv) : SCall Try.prog C 43 [sv4 x.a x.b x.c x.d, .c (.v (.int .i64 n)), .c (cu m)] d K ⟨fr, hp, nx⟩ :=
  scall_pure [x.v, .int .i64 n, vu m] _ (x.wth n m).v Try.call43 (rwith_c x n m) rfl (fun _ => rfl) (fun _ => rfl) h
theorem rat_s {x : V4} {n : Int} (h : dOk C.N d ∧ kput K ⟨fr, hp, nx⟩ d (.c (cu (x.at n)))) : SCall Try.prog C 44 [sv4 x.a x.b x.c x.d, .c (.v (.int .i64 n))] d K ⟨fr, hp, nx⟩ :=
  scall_pure [x.v, .int .i64 n] _ (vu (x.at n)) Try.call44 (rat_c x n) rfl (fun _ => rfl) (fun _ => rfl) h
theorem rn_s {x : Stp} (h : dOk C.N d ∧ kput K ⟨fr, hp, nx⟩ d (.c (cu x.n))) : SCall Try.prog C 42 [sst x.v.a x.v.b x.v.c x.v.d x.dc] d K ⟨fr, hp, nx⟩ :=
  scall_pure [x.val] _ (vu x.n) Try.call42 (rn_c x) rfl (fun _ => rfl) (fun _ => rfl) h
end
abbrev RS8 := Nat × Nat × Nat × CV × Blk
def rs8F (s : ShS) (st : Stp) (n c : Nat) (ws : List Wr) (wv : CV) (wb : Blk) (its : List BatA) (fpb : List Nat) (p : RS8) : St :=
  ⟨[(4, .c (ci p.1)), (3, .c (.p 4 0 0)), (0, .c (.p 0 0 0))], [(p.2.1, p.2.2.2.2), (6, .rows 71 4 n c fun j => (wrw ws j).map .v), (4, .cells 108 [cu st.v.a, cu st.v.b, cu st.v.c, cu st.v.d, ci st.dc, .s 6 0 n c]), (0, rsO s wv p.2.2.2.1), (2, wb), (5, .pred fpb (All BatQ its fpb))], p.2.2.1⟩
theorem wv_tail {x : BatA} {its : List BatA} {o c m cb : Nat} {rv : Nat → List Value} (hc : (x :: its).length ≤ c ∧ o + (x :: its).length ≤ m) (hrv : ∀ i y, (x :: its)[i]? = some y → rv (o + i) = BatA.l y) : WV its (.s 2 (if c = 1 then o else o + 1) its.length (c - 1)) (.rows 108 6 m cb fun j => (rv j).map .v) := by
  simp only [List.length_cons] at hc
  refine .inr ⟨if c = 1 then o else o + 1, c - 1, m, cb, rv, ⟨by omega, by split <;> omega⟩, fun i y hy => ?_, rfl, rfl⟩
  by_cases h1 : c = 1
  · have : its.length = 0 := by omega
    rw [List.length_eq_zero_iff.1 this] at hy; cases hy
  · rw [if_neg h1, Nat.add_assoc, Nat.add_comm 1 i]
    exact hrv (i + 1) y (by simpa using hy)
theorem foldV_end (st : Stp) (ws : List Wr) (l : List Ver) : foldV st ws l ws.length = ws.foldl (addV st) l := by unfold foldV; rw [List.take_length]
set_option maxHeartbeats 8000000 in
set_option maxRecDepth 100000 in
theorem rdstep_c (g : Nat) (s : ShS) (hwf : WfL s.l) (hl : s.l.length ≤ 90000) (hw : ∀ x, x ∈ s.w → x.2.length ≤ 1000 ∧ x.1.right = true) (fp : List Nat) (w : World) (h : On g (RSd s) fp w) :
    Calls Try.prog 15 #[gptr g] w (Turn g fp (.bool (!s.w.isEmpty)) (RSd s.step) w) := by
  have z0 : 0 < 4 := by decide
  refine on_calls h 67 _ Try.func15 rfl Try.ntmps15 Try.results15 [.c (.p 0 0 0)] (by simp) (fun ρ' h1 h2 => by simp [SV.denL, SV.den, CV.den, CV.denL, gptr, h1, h2]) (fun ρ nx hp hsh hg hb => ?_)
  obtain ⟨rfl, lv, lb, wv, wb, its, fpb, hL, hW, hi, rfl⟩ := hsh
  have hlW := hW.len
  have okW := hW.ok
  have oneL := hL.one
  have hwl2 := bat_len hi
  rcases its with _ | ⟨x, its⟩
  · have hsw : s.w = [] := by rw [← hi]; rfl
    have hst : s.step = s := by simp [ShS.step, hsw]
    simp (disch := omega) only [go_sem, wrapI64, wrapu64, wrapu32, wrapu8, ltT, ltF, leT, leF, eqF, eqT, nltT, nleT, neqFn, rsO, hlW, List.length_nil]
    refine fun ρ' a w' hs' hag => ?_
    obtain ⟨fp', hon, hch⟩ := rsd_end s id rfl rfl hs' ((congrArg Nm.blk (hag 0 z0)).trans hg) ((congrArg Nm.base (hag 0 z0)).trans hb) hL hW hi (by simp) (by rw [hW.blk.2.2.2.2 id rfl, hL.blk.2.2.2.2 id rfl]; rfl) rfl rfl rfl
    exact ⟨fp', by rw [hsw]; rfl, by rw [hst]; exact hon, hch⟩
  have hsw : s.w = (x.st, x.ws) :: its.map BatA.bat := by rw [← hi]; rfl
  obtain ⟨st, ws, b, cc⟩ := x
  have hst : s.step = ⟨s.room, its.map BatA.bat, foldV st ws s.l ws.length, s.ap.wth st.dc (max st.n (s.ap.at st.dc))⟩ := by rw [foldV_end]; simp only [ShS.step, hsw]
  obtain ⟨hwl, hright⟩ : ws.length ≤ 1000 ∧ st.right = true := hw (st, ws) (by rw [hsw]; simp)
  rcases hW with ⟨hn, _, _⟩ | ⟨o, c, m, cb, rv, hc, hrv, rfl, rfl⟩
  · cases hn
  have hcl : its.length + 1 ≤ c ∧ o + (its.length + 1) ≤ m := by simpa using hc
  have hr0 : (rv o).map CV.v = [cu st.v.a, cu st.v.b, cu st.v.c, cu st.v.d, ci st.dc, .v (slb ws.length b cc)] := by
    rw [show rv o = _ from hrv 0 _ rfl]; rfl
  have hlc : ((its.length + 1 : Nat) : Int) ≤ c := by omega
  have hWt := wv_tail hc hrv (cb := cb)
  have hsl1 : one1 (.v (slb ws.length b cc)) = true := by unfold slb; split <;> rfl
  obtain ⟨o2, ho2⟩ : ∃ o2, (if c = 1 then o else o + 1) = o2 := ⟨_, rfl⟩
  rw [ho2] at hWt
  have hrL := fun (m g e : Nat) (hm : m ≠ 1) => hL.raw (m := m) (g := g) (e := e) hm
  obtain ⟨lv', hS1, hrn1⟩ : ∃ lv', SL 1 111 9 (vrow s.l) s.l.length lv' lb ∧ lv' = lv := by
    rcases hL with ⟨hn, rfl, rfl⟩ | ⟨c, hc, rfl, rfl⟩
    · exact ⟨_, .inl ⟨by rw [hn]; rfl, rfl, rfl⟩, rfl⟩
    · exact ⟨_, .inr ⟨c, hc, rfl, rfl⟩, rfl⟩
  subst hrn1
  simp (disch := omega) only [go_sem, wrapI64, wrapu64, wrapu32, wrapu8, ltT, ltF, leT, leF, eqF, eqT, nltT, nleT, neqFn, rsO, List.length_cons, hr0, hsl1, ho2, Nat.add_sub_cancel]
  refine scode_split (α := Unit) 3 (fun _ fp => BatQ ⟨st, ws, b, cc⟩ fp) (fun _ fp => All BatQ its fp) rfl (fun w h hn => by
    obtain ⟨f1, f2, hp, h1, h2⟩ := All.split (a := []) h
    exact ⟨(), f1, f2, fun k hk => hp.mem_iff.1 hk, hp.nodup_iff.2 hn, h1, h2⟩) (fun _ _ => BatQ.stable _ _) (fun _ _ => All.stable BatQ.stable) fun _ fp1 fp2 => ?_
  simp (disch := omega) only [go_sem, wrapI64, wrapu64, wrapu32, wrapu8, ltT, ltF, leT, leF, eqF, eqT, nltT, nleT, neqFn]
  rcases Nat.eq_zero_or_pos ws.length with h0 | hpos
  · have : ws = [] := List.length_eq_zero_iff.1 h0
    subst this
    have hsl : slb ([] : List Wr).length b cc = .slice none 0 0 := rfl
    rw [hsl]
    refine sloop_rounds 1 ?_
    simp (disch := omega) only [go_sem, wrapI64, wrapu64, wrapu32, wrapu8, ltT, ltF, leT, leF, eqF, eqT, nltT, nleT, neqFn]
    refine rn_s ?_
    simp (disch := omega) only [go_sem, wrapI64, wrapu64, wrapu32, wrapu8, ltT, ltF, leT, leF, eqF, eqT, nltT, nleT, neqFn]
    refine sdraw [.t 0, .t 1, .t 2, .t 3, .t 4, .t 5, .t 6, .t 7, .t 8, .t 9, .t 10, .t 11, .t 12, .t 13, .t 14, .t 15, .r 16, .t 17, .r 18, .t 19, .t 20, .r 21] 21 [(4, _), (0, _)] rfl (by kernel_rfl) ⟨rfl, rfl, trivial⟩ ?_
    simp (disch := omega) only [go_sem, wrapI64, wrapu64, wrapu32, wrapu8, ltT, ltF, leT, leF, eqF, eqT, nltT, nleT, neqFn]
    refine rat_s (x := s.ap) ?_
    simp (disch := omega) only [go_sem, wrapI64, wrapu64, wrapu32, wrapu8, ltT, ltF, leT, leF, eqF, eqT, nltT, nleT, neqFn]
    refine rwith_s (x := s.ap) ?_
    simp (disch := omega) only [go_sem, wrapI64, wrapu64, wrapu32, wrapu8, ltT, ltF, leT, leF, eqF, eqT, nltT, nleT, neqFn]
    refine fun ρ' a w' hs' hag => ?_
    obtain ⟨fp', hon, hch⟩ := rsd_end s.step (fun k => if k = 3 then 5 else k) rfl rfl hs' ((congrArg Nm.blk (hag 0 z0)).trans hg) ((congrArg Nm.base (hag 0 z0)).trans hb) (fpb := fp2) (its := its) (by rw [hst]; exact hL) hWt (by rw [hst]) (by simp) (by rw [hWt.blk.2.2.2.2 _ rfl, hL.blk.2.2.2.2 _ rfl, hst]; rfl) rfl rfl rfl
    exact ⟨fp', by rw [hsw]; rfl, hon, hch⟩
  · have h0 : ws.length ≠ 0 := by omega
    have hsl : slb ws.length b cc = .slice (some ⟨b, 0, none⟩) ws.length cc := if_neg h0
    rw [hsl]
    refine SCode_ent (ent_drop (fr' := [(4, .c (ci 0)), (3, .c (.p 4 0 0)), (0, .c (.p 0 0 0))]) (hp' := [(5, .pred fp2 (All BatQ its fp2)), (4, .cells 108 [cu st.v.a, cu st.v.b, cu st.v.c, cu st.v.d, ci st.dc, .v (.slice (some ⟨b, 0, none⟩) ws.length cc)]), (0, rsO s (.s 2 o2 its.length (c - 1)) lv'), (1, lb), (2, .rows 108 6 m cb fun j => (rv j).map .v), (3, .pred fp1 (BatQ ⟨st, ws, b, cc⟩ fp1))]) ⟨rfl, rfl, rfl, trivial⟩ ⟨rfl, rfl, rfl, rfl, rfl, rfl, trivial⟩ (by simp)) ?_
    refine scode_thaw2 3 (rv := wrw ws) (b := b) (ty := 71) (e := 4) (k := ws.length) (cc := cc) [(4, .c (ci 0)), (3, .c (.p 4 0 0)), (0, .c (.p 0 0 0))] [(5, .pred fp2 (All BatQ its fp2)), (4, .cells 108 [cu st.v.a, cu st.v.b, cu st.v.c, cu st.v.d, ci st.dc, .s 6 0 ws.length cc]), (0, rsO s (.s 2 o2 its.length (c - 1)) lv'), (1, lb), (2, .rows 108 6 m cb fun j => (rv j).map .v)] rfl (fun w h => by unfold BatQ at h; rw [if_neg h0] at h; exact ⟨h.1, h.2.2⟩) rfl ?_ ?_
    · have e1 := hrL 6 b 4 (by omega)
      simp only [rawHp, rawB_cells, rawB_rows, rawB_pred, rsO, CV.rawL, e1.1, e1.2, rawL_v]
      rfl
    refine sloop (rs8F s st ws.length cc ws (.s 2 o2 its.length (c - 1)) (.rows 108 6 m cb fun j => (rv j).map .v) its fp2) (fun p => p.1 ≤ ws.length ∧ ((p.2.1 = 1 ∨ 7 ≤ p.2.1) ∧ p.2.1 < p.2.2.1 ∧ 7 ≤ p.2.2.1) ∧ SL p.2.1 111 9 (vrow (foldV st ws s.l p.1)) (foldV st ws s.l p.1).length p.2.2.2.1 p.2.2.2.2) (fun p => ws.length - p.1) (0, 1, 7, lv', lb)
      ⟨Nat.zero_le _, ⟨.inl rfl, by show 1 < 7; omega, Nat.le_refl _⟩, hS1⟩ (ent_drop ⟨rfl, rfl, rfl, trivial⟩ ⟨rfl, rfl, rfl, rfl, rfl, rfl, trivial⟩ (by simp [rs8F])) (fun p hp => ?_)
    obtain ⟨j, T, NX, ov, ob⟩ := p
    obtain ⟨hj, ⟨hT, hTN, hNX⟩, hS⟩ : j ≤ ws.length ∧ ((T = 1 ∨ 7 ≤ T) ∧ T < NX ∧ 7 ≤ NX) ∧ SL T 111 9 (vrow (foldV st ws s.l j)) (foldV st ws s.l j).length ov ob := hp
    have hwfj := foldV_wf (st := st) (ws := ws) hwf j
    have hlj := foldV_len (st := st) (ws := ws) (l := s.l) j
    unfold rs8F
    dsimp only
    by_cases hjl : j < ws.length
    · obtain ⟨y, hy⟩ : ∃ y, ws[j]? = some y := ⟨_, List.getElem?_eq_getElem hjl⟩
      have hrow : (wrw ws j).map CV.v = y.c := by rw [wrw_eq hy]; rfl
      have hf := foldV_s (st := st) (l := s.l) hy
      simp (disch := omega) only [go_sem, wrapI64, wrapu64, wrapu32, wrapu8, ltT, ltF, leT, leF, eqF, eqT, nltT, nleT, neqFn, hrow]
      refine sdraw [.t 0, .t 1, .t 2, .t 3, .t 4, .t 5, .t 6, .t 7, .t 8, .r 9] 10 [(4, _), (6, _)] rfl (by kernel_rfl) ⟨by simp (disch := omega) only [go_sem, wrapI64, wrapu64, wrapu32, wrapu8, ltT, ltF, leT, leF, eqF, eqT, nltT, nleT, neqFn]; rfl, by simp (disch := omega) only [go_sem, wrapI64, wrapu64, wrapu32, wrapu8, ltT, ltF, leT, leF, eqF, eqT, nltT, nleT, neqFn]; rfl, trivial⟩ ?_
      simp (disch := omega) only [go_sem, wrapI64, wrapu64, wrapu32, wrapu8, ltT, ltF, leT, leF, eqF, eqT, nltT, nleT, neqFn, hrow]
      refine rdadd_s 0 T hwfj (by omega) st y hright (by simp (disch := omega) only [go_sem, wrapI64, wrapu64, wrapu32, wrapu8, ltT, ltF, leT, leF, eqF, eqT, nltT, nleT, neqFn, rsO]; rfl) (by simp (disch := omega) only [go_sem, wrapI64, wrapu64, wrapu32, wrapu8, ltT, ltF, leT, leF, eqF, eqT, nltT, nleT, neqFn]) (by omega) hS (Nat.le_of_ble_eq_true rfl) (fun he nx' hnx => ?_) (fun he q c' nx' hq1 hq2 hc' => ?_)
      · simp (disch := omega) only [go_sem, wrapI64, wrapu64, wrapu32, wrapu8, ltT, ltF, leT, leF, eqF, eqT, nltT, nleT, neqFn]
        refine ⟨(j + 1, T, nx', ov, ob), ⟨hjl, ⟨hT, by show T < nx'; omega, by show 7 ≤ nx'; omega⟩, by show SL T _ 9 (vrow (foldV st ws s.l (j + 1))) (foldV st ws s.l (j + 1)).length ov ob; rw [hf, he]; exact hS⟩, by show ws.length - (j + 1) < ws.length - j; omega, ent_drop ⟨rfl, rfl, rfl, trivial⟩ ⟨by simp (disch := omega) only [go_sem, wrapI64, wrapu64, wrapu32, wrapu8, ltT, ltF, leT, leF, eqF, eqT, nltT, nleT, neqFn], by simp (disch := omega) only [go_sem, wrapI64, wrapu64, wrapu32, wrapu8, ltT, ltF, leT, leF, eqF, eqT, nltT, nleT, neqFn], by simp (disch := omega) only [go_sem, wrapI64, wrapu64, wrapu32, wrapu8, ltT, ltF, leT, leF, eqF, eqT, nltT, nleT, neqFn], by simp (disch := omega) only [go_sem, wrapI64, wrapu64, wrapu32, wrapu8, ltT, ltF, leT, leF, eqF, eqT, nltT, nleT, neqFn], by simp (disch := omega) only [go_sem, wrapI64, wrapu64, wrapu32, wrapu8, ltT, ltF, leT, leF, eqF, eqT, nltT, nleT, neqFn], by simp (disch := omega) only [go_sem, wrapI64, wrapu64, wrapu32, wrapu8, ltT, ltF, leT, leF, eqF, eqT, nltT, nleT, neqFn], trivial⟩ (by simp; omega)⟩
      · have hl2 : (foldV st ws s.l (j + 1)).length = (foldV st ws s.l j).length + 1 := by rw [hf, he]; simp
        simp (disch := omega) only [go_sem, wrapI64, wrapu64, wrapu32, wrapu8, ltT, ltF, leT, leF, eqF, eqT, nltT, nleT, neqFn, rsO]
        refine ⟨(j + 1, q, nx', .s q 0 ((foldV st ws s.l j).length + 1) c', .rows 111 9 ((foldV st ws s.l j).length + 1) c' fun i => (vrow (foldV st ws s.l j ++ [⟨st, y⟩]) i).map .v), ⟨hjl, ⟨.inr (by show 7 ≤ q; omega), hq2, by show 7 ≤ nx'; omega⟩, ?_⟩, by show ws.length - (j + 1) < ws.length - j; omega, ent_drop ⟨rfl, rfl, rfl, trivial⟩ ⟨by simp (disch := omega) only [go_sem, wrapI64, wrapu64, wrapu32, wrapu8, ltT, ltF, leT, leF, eqF, eqT, nltT, nleT, neqFn], by simp (disch := omega) only [go_sem, wrapI64, wrapu64, wrapu32, wrapu8, ltT, ltF, leT, leF, eqF, eqT, nltT, nleT, neqFn], by simp (disch := omega) only [go_sem, wrapI64, wrapu64, wrapu32, wrapu8, ltT, ltF, leT, leF, eqF, eqT, nltT, nleT, neqFn], by simp (disch := omega) only [go_sem, wrapI64, wrapu64, wrapu32, wrapu8, ltT, ltF, leT, leF, eqF, eqT, nltT, nleT, neqFn], by simp (disch := omega) only [go_sem, wrapI64, wrapu64, wrapu32, wrapu8, ltT, ltF, leT, leF, eqF, eqT, nltT, nleT, neqFn], by simp (disch := omega) only [go_sem, wrapI64, wrapu64, wrapu32, wrapu8, ltT, ltF, leT, leF, eqF, eqT, nltT, nleT, neqFn], trivial⟩ (by simp; omega)⟩
        show SL q _ 9 (vrow (foldV st ws s.l (j + 1))) (foldV st ws s.l (j + 1)).length _ _
        rw [hl2, hf, he]
        exact .inr ⟨c', ⟨hc', Nat.succ_pos _⟩, rfl, rfl⟩
    · have hje : j = ws.length := by omega
      subst hje
      obtain ⟨ov', hS', hrn⟩ := hS.name 1
      simp (disch := omega) only [go_sem, wrapI64, wrapu64, wrapu32, wrapu8, ltT, ltF, leT, leF, eqF, eqT, nltT, nleT, neqFn]
      refine rn_s ?_
      simp (disch := omega) only [go_sem, wrapI64, wrapu64, wrapu32, wrapu8, ltT, ltF, leT, leF, eqF, eqT, nltT, nleT, neqFn]
      refine sdraw [.t 0, .t 1, .t 2, .t 3, .t 4, .t 5, .t 6, .t 7, .t 8, .t 9, .t 10, .t 11, .t 12, .t 13, .t 14, .t 15, .r 16, .t 17, .r 18, .t 19, .t 20, .r 21] 21 [(4, _), (0, _)] rfl (by kernel_rfl) ⟨by simp (disch := omega) only [go_sem, wrapI64, wrapu64, wrapu32, wrapu8, ltT, ltF, leT, leF, eqF, eqT, nltT, nleT, neqFn]; rfl, by simp (disch := omega) only [go_sem, wrapI64, wrapu64, wrapu32, wrapu8, ltT, ltF, leT, leF, eqF, eqT, nltT, nleT, neqFn]; rfl, trivial⟩ ?_
      simp (disch := omega) only [go_sem, wrapI64, wrapu64, wrapu32, wrapu8, ltT, ltF, leT, leF, eqF, eqT, nltT, nleT, neqFn]
      refine rat_s (x := s.ap) ?_
      simp (disch := omega) only [go_sem, wrapI64, wrapu64, wrapu32, wrapu8, ltT, ltF, leT, leF, eqF, eqT, nltT, nleT, neqFn]
      refine rwith_s (x := s.ap) ?_
      simp (disch := omega) only [go_sem, wrapI64, wrapu64, wrapu32, wrapu8, ltT, ltF, leT, leF, eqF, eqT, nltT, nleT, neqFn]
      refine fun ρ' a w' hs' hag => ?_
      obtain ⟨fp', hon, hch⟩ := rsd_end s.step (fun k => if k = 3 then 5 else if k = 1 then T else k) rfl rfl hs' ((congrArg Nm.blk (hag 0 z0)).trans hg) ((congrArg Nm.base (hag 0 z0)).trans hb) (fpb := fp2) (its := its) (lb := ob) (lv := ov') (by rw [hst]; exact lv_of hS') hWt (by rw [hst]) (by simp; omega) (by rw [hWt.blk.2.2.2.2 _ rfl, hrn _ rfl, hst]; simp (disch := omega) only [go_sem, wrapI64, wrapu64, wrapu32, wrapu8, ltT, ltF, leT, leF, eqF, eqT, nltT, nleT, neqFn]) (by simp (disch := omega) only [go_sem, wrapI64, wrapu64, wrapu32, wrapu8, ltT, ltF, leT, leF, eqF, eqT, nltT, nleT, neqFn]) (by simp (disch := omega) only [go_sem, wrapI64, wrapu64, wrapu32, wrapu8, ltT, ltF, leT, leF, eqF, eqT, nltT, nleT, neqFn]) (by simp (disch := omega) only [go_sem, wrapI64, wrapu64, wrapu32, wrapu8, ltT, ltF, leT, leF, eqF, eqT, nltT, nleT, neqFn])
      exact ⟨fp', by rw [hsw]; rfl, hon, hch⟩
end Go.Proofs.Ytagjblkfgjcmnaa
namespace Go.Proofs.Ytagjblkfgjcmnaa
open Go.RowKit Go.Sx CW
theorem WV.lenr {its : List BatA} {wv : CV} {wb : Blk} (h : WV its wv wb) (f : Nat → Nat) (t : TypeId) (F : SV → Prop) : XLen (.slc t) (.c (wv.rn f)) F = F (.c (.v (.int .i64 its.length))) := by
  rcases h with ⟨rfl, rfl, _⟩ | ⟨o, c, m, cb, rv, _, _, rfl, _⟩ <;> rfl
theorem LV.lenr {l : List Ver} {lv : CV} {lb : Blk} (h : LV l lv lb) (f : Nat → Nat) (t : TypeId) (F : SV → Prop) : XLen (.slc t) (.c (lv.rn f)) F = F (.c (.v (.int .i64 l.length))) := by
  rcases h with ⟨rfl, rfl, _⟩ | ⟨c, _, rfl, _⟩ <;> rfl
theorem WV.okr {its : List BatA} {wv : CV} {wb : Blk} (h : WV its wv wb) (f : Nat → Nat) : SV.ok (.c (wv.rn f)) = true ∧ one1 (wv.rn f) = true := by
  rcases h with ⟨rfl, rfl, _⟩ | ⟨o, c, m, cb, rv, _, _, rfl, _⟩ <;> exact ⟨rfl, rfl⟩
theorem LV.okr {l : List Ver} {lv : CV} {lb : Blk} (h : LV l lv lb) (f : Nat → Nat) : SV.ok (.c (lv.rn f)) = true ∧ one1 (lv.rn f) = true := by
  rcases h with ⟨rfl, rfl, _⟩ | ⟨c, _, rfl, _⟩ <;> exact ⟨rfl, rfl⟩
section
variable {C : Cx} {fr : List (Nat × SV)} {hp : List (Nat × Blk)} {nx : Nat} {d : Option Tmp} {K : St → Prop}
theorem xnew_s {room : Int} (hr : roomOk room = true) (hd : dkB C.N d = true) (hK : ∀ g fp', kput K ⟨fr, (nx, .pred fp' (On g (RSd (ShS.new room.toNat)) fp')) :: hp, nx + 1⟩ d (.c (.v (gptr g)))) : SCall Try.prog C 10 [.c (ci room)] d K ⟨fr, hp, nx⟩ :=
  on_new (Sh := RSd (ShS.new room.toNat)) [.int .i64 room] (fun g => gptr g) (fun g => .c (.v (gptr g))) Try.call10 (fun w => (rdnew_c room w).mono fun e w' h => by rw [if_pos hr] at h; exact h) rfl (fun _ => rfl) (fun _ _ => rfl) hd hK
theorem xnew_bad {room : Int} (hr : roomOk room = false) (h : dOk C.N d ∧ kput K ⟨fr, hp, nx⟩ d (.c (.v (.pointer none)))) : SCall Try.prog C 10 [.c (ci room)] d K ⟨fr, hp, nx⟩ :=
  scall_pure [.int .i64 room] (.c (.v (.pointer none))) (.pointer none) Try.call10 (fun w => (rdnew_c room w).mono fun e w' h => by rw [hr] at h; exact h) rfl (fun _ => rfl) (fun _ => rfl) h
theorem xstep_s (n : Nat) {g : Nat} {s : ShS} {fp : List Nat} (hwf : WfL s.l) (hl : s.l.length ≤ 90000) (hw : ∀ x, x ∈ s.w → x.2.length ≤ 1000 ∧ x.1.right = true) (hg : hget hp n = some (.pred fp (On g (RSd s) fp))) (hd : dkB C.N d = true) (hK : ∀ fp', kput K ⟨fr, hset hp n (.pred fp' (On g (RSd s.step) fp')), nx⟩ d (.c (.v (.bool (!s.w.isEmpty))))) : SCall Try.prog C 15 [.c (.v (gptr g))] d K ⟨fr, hp, nx⟩ :=
  on_call n [gptr g] (.c (.v (.bool (!s.w.isEmpty)))) Try.call15 (fun w h => rdstep_c g s hwf hl hw fp w h) hg rfl (fun _ => rfl) (fun _ => rfl) hd hK
theorem xread_s (n : Nat) {g : Nat} {s : ShS} {fp : List Nat} (hwf : WfL s.l) (hl : s.l.length ≤ 100000) (k : Ky) (at' : V4) (hg : hget hp n = some (.pred fp (On g (RSd s) fp))) (hd : dkB C.N d = true)
    (hK : kput K ⟨fr, hset hp n (.pred fp (On g (RSd s) fp)), nx⟩ d (.tup [.c (.v (.string (s.rd k at').x.x)), (s.rd k at').st.sv, .c (.v (.bool (s.rdO k at' && !(s.rd k at').x.g)))])) : SCall Try.prog C 23 [.c (.v (gptr g)), .c (.v (.string k.1)), .c (.v (.string k.2)), sv4 at'.a at'.b at'.c at'.d] d K ⟨fr, hp, nx⟩ :=
  on_callk n [gptr g, .string k.1, .string k.2, at'.v] (.tup [.c (.v (.string (s.rd k at').x.x)), (s.rd k at').st.sv, .c (.v (.bool (s.rdO k at' && !(s.rd k at').x.g)))]) Try.call23 (fun w h => rdread_c g s hwf hl k at' fp w h) hg rfl (fun _ => rfl) (fun _ => rfl) hd hK
theorem xlast_s (n : Nat) {g : Nat} {s : ShS} {fp : List Nat} (hwf : WfL s.l) (hl : s.l.length ≤ 100000) (k : Ky) (hg : hget hp n = some (.pred fp (On g (RSd s) fp))) (hd : dkB C.N d = true)
    (hK : kput K ⟨fr, hset hp n (.pred fp (On g (RSd s) fp)), nx⟩ d (.tup [.agg (s.la k).x.c, (s.la k).st.sv, .c (.v (.bool (s.laO k)))])) : SCall Try.prog C 25 [.c (.v (gptr g)), .c (.v (.string k.1)), .c (.v (.string k.2))] d K ⟨fr, hp, nx⟩ :=
  on_callk n [gptr g, .string k.1, .string k.2] (.tup [.agg (s.la k).x.c, (s.la k).st.sv, .c (.v (.bool (s.laO k)))]) Try.call25 (fun w h => rdlastm_c g s hwf hl k fp w h) hg rfl (fun _ => rfl) (fun _ => rfl) hd hK
theorem xprune_s (n : Nat) {g : Nat} {s : ShS} {fp : List Nat} (hwf : WfL s.l) (hl : s.l.length ≤ 100000) (h : V4) (hg : hget hp n = some (.pred fp (On g (RSd s) fp))) (hd : dkB C.N d = true) (hK : ∀ fp', kput K ⟨fr, hset hp n (.pred fp' (On g (RSd (s.prune h)) fp')), nx⟩ d (.c (ci ((s.l.length : Int) - (pruL s.l h).length)))) : SCall Try.prog C 17 [.c (.v (gptr g)), sv4 h.a h.b h.c h.d] d K ⟨fr, hp, nx⟩ :=
  on_call n [gptr g, h.v] (.c (ci ((s.l.length : Int) - (pruL s.l h).length))) Try.call17 (fun w ho => rdprune_c g s hwf hl h fp w ho) hg rfl (fun _ => rfl) (fun _ => rfl) hd hK
inductive RArg (hp : List (Nat × Blk)) (ws : List Wr) : CV → Prop where
  | nil (h : ws = []) : RArg hp ws (.v (.slice none 0 0))
  | rows (m c k cb : Nat) (r : Nat → List CV) (h : hget hp m = some (.rows 71 4 k cb r)) (hk : 0 < ws.length ∧ ws.length ≤ k) (hr : ∀ i, i < ws.length → r i = (wrw ws i).map .v) : RArg hp ws (.s m 0 ws.length c)
theorem xpush_s (n : Nat) {g : Nat} {s : ShS} {fp : List Nat} (st : Stp) (ws : List Wr) {x : CV} (hx : RArg hp ws x) (hlen : ws.length ≤ 1000) (hwl : s.w.length ≤ 1000) (hg : hget hp n = some (.pred fp (On g (RSd s) fp))) (hd : dkB C.N d = true)
    (hK : ∀ fp', kput K ⟨fr, hset hp n (.pred fp' (On g (RSd (s.push st ws)) fp')), nx⟩ d (.c (.v (.bool (s.pushB st ws))))) : SCall Try.prog C 19 [.c (.v (gptr g)), sst st.v.a st.v.b st.v.c st.v.d st.dc, .c x] d K ⟨fr, hp, nx⟩ := by
  cases hx with
  | nil h =>
    subst h
    exact scall_predI (α := Unit) n fp _ (fun _ fp' => On g (RSd (s.push st [])) fp') (k := 0) (e := 4) (rv := wrw []) (fun _ => (0, 0)) (fun b o => [gptr g, st.val, .slice none 0 0]) (fun _ => .c (.v (.bool (s.pushB st [])))) (fun _ => .bool (s.pushB st [])) (fun _ => True) Try.call19
      (fun w b o h hi hb => (rdpush_c g s st [] (by simp) hwl fp w h b o 0 hi hb).mono fun e w' ⟨fp', h1, h2, h3⟩ => ⟨(), fp', trivial, h1, h2, h3⟩) (fun _ _ => On.stable) hg rfl
      (fun ρ a w hs => ⟨⟨fun h => absurd h (by simp), fun i hi => absurd hi (by simp), fun i hi => absurd hi (by simp)⟩, fun h => absurd h (by simp)⟩) (fun ρ => rfl) (fun _ _ => rfl) ⟨dk_of hd, fun _ fp' _ => hK fp'⟩
  | rows m c k cb r h hk hr =>
    exact scall_predI (α := Unit) n fp _ (fun _ fp' => On g (RSd (s.push st ws)) fp') (k := ws.length) (e := 4) (rv := wrw ws) (fun ρ => ((ρ m).blk, (ρ m).base + 0 * (ρ m).esz)) (fun b o => [gptr g, st.val, .slice (some ⟨b, o, none⟩) ws.length c]) (fun _ => .c (.v (.bool (s.pushB st ws)))) (fun _ => .bool (s.pushB st ws)) (fun _ => True) Try.call19
      (fun w b o h hi hb => by
        have := rdpush_c g s st ws hlen hwl fp w h b o c hi hb
        rw [show wslv ws.length b o c = .slice (some ⟨b, o, none⟩) ws.length c from if_neg (by omega)] at this
        exact this.mono fun e w' ⟨fp', h1, h2, h3⟩ => ⟨(), fp', trivial, h1, h2, h3⟩) (fun _ _ => On.stable) hg rfl
      (fun ρ a w hs => by
        obtain ⟨q1, q2, ⟨arr, q3, q4, q5⟩, q6⟩ := hs.now.hp _ _ (mem_hget h)
        have hne : n ≠ m := fun e => by rw [e, h] at hg; cases hg
        refine ⟨⟨fun _ => q3.lt, fun i hi => ?_, fun i hi u hu => ?_⟩, fun _ hm => foot_disj hs.now.nodup (mem_hget h) (mem_hget hg) (Ne.symm hne) (by simp [Blk.foot]) hm⟩
        · have := (q5 i (by omega)).1
          rw [hr i hi] at this; simpa using this
        · have := (q5 i (by omega)).2 u hu
          rw [hr i hi, ← List.getElem?_map, map_v] at this
          rw [q1, q3.cell]; simp only [Nat.zero_mul, Nat.zero_add]
          exact this) (fun ρ => rfl) (fun _ _ => rfl) ⟨dk_of hd, fun _ fp' _ => hK fp'⟩
theorem xopen_c {c : Code} {Q : Exit → St → Prop} (n : Nat) {g : Nat} {s : ShS} {fp : List Nat} (ts : List Nat) (hg : hget hp n = some (.pred fp (On g (RSd s) fp))) (ht : ∀ t, t ∈ ts → lk fr t = .c (.v (gptr g)))
    (h : ∀ lv wv lb wb its fb, LV s.l lv lb → WV its wv wb → its.map BatA.bat = s.w → SCode Try.prog C c Q ⟨ptsC (.c (.p nx 0 0)) ts fr, (nx, rsO s (wv.rn (nx + ·)) (lv.rn (nx + ·))) :: (nx + 1, lb) :: (nx + 2, wb) :: (nx + 3, .pred fb (All BatQ its fb)) :: hrem hp n, nx + 4⟩) : SCode Try.prog C c Q ⟨fr, hp, nx⟩ := by
  refine scode_open n ts hg ht fun nx' hp' hsh => ?_
  obtain ⟨rfl, lv, lb, wv, wb, its, fb, hL, hW, hi, rfl⟩ := hsh
  have h1 := h lv wv lb wb its fb hL hW hi
  have e1 := hL.blk.2.2.2.1 (nx + ·)
  have e2 := hW.blk.2.2.2.1 (nx + ·)
  have e : renL (nx + ·) [(0, rsO s wv lv), (1, lb), (2, wb), (3, Blk.pred fb (All BatQ its fb))] = [(nx, rsO s (wv.rn (nx + ·)) (lv.rn (nx + ·))), (nx + 1, lb), (nx + 2, wb), (nx + 3, .pred fb (All BatQ its fb))] := by
    show [(nx + 0, Blk.rn (nx + ·) (rsO s wv lv)), (nx + 1, lb.rn (nx + ·)), (nx + 2, wb.rn (nx + ·)), (nx + 3, Blk.pred fb (All BatQ its fb))] = _
    rw [e1, e2]; rfl
  rw [e]
  exact h1
theorem rfst_c (s : Stp) (w : World) : Calls Try.prog 20 #[s.val] w fun e w' => e = .returned s.val ∧ Below w.heap.size w w' := by
  obtain ⟨⟨a0, a1, a2, a3⟩, n⟩ := s
  refine calls_pure 8 _ Try.func20 rfl Try.ntmps20 Try.results20 [sst a0 a1 a2 a3 n] (by simp) (fun _ => rfl) ?_
  simp only [go_sem, ↓reduceIte, Nat.reduceEqDiff, Nat.reduceLT, Nat.reduceLeDiff, Nat.reduceAdd, Nat.reduceMul, Nat.reduceSub, Nat.reduceDiv, Nat.reduceMod, Int.reduceToNat, Int.reduceLT, Int.reduceLE, Int.reduceAdd, Int.reduceSub, Int.reduceMul, Int.reduceEq, Int.reduceNeg, reduceCtorEq, or_false, false_or, decide_true, decide_false, Int.cast_ofNat_Int, Nat.zero_add, Nat.add_zero, Int.toNat_natCast, Option.isNone_none, Option.isNone_some, Bool.not_true, Bool.not_false, Bool.xor_true, Bool.xor_false, Bool.true_xor, Bool.false_xor, decide_true, decide_false, Bool.and_true, Bool.true_and, Bool.and_false, Bool.false_and, eq_self, ne_eq, not_false_eq_true, not_true_eq_false, true_and, and_true, and_self]
  exact fun ρ a w hs _ => ⟨rfl, hs.grown⟩
theorem rfst_s {x : Stp} (hk : dOk C.N d ∧ kput K ⟨fr, hp, nx⟩ d x.sv) : SCall Try.prog C 20 [sst x.v.a x.v.b x.v.c x.v.d x.dc] d K ⟨fr, hp, nx⟩ :=
  scall_pure [x.val] _ _ Try.call20 (rfst_c x) rfl (fun _ => rfl) (fun _ => rfl) hk
end
end Go.Proofs.Ytagjblkfgjcmnaa
namespace Go.Proofs.Ytagjblkfgjcmnaa
open Go.RowKit Go.Sx CW
attribute [local go_sem ↓] reduceIte
attribute [local go_sem] Nat.reduceEqDiff Nat.reduceLT Nat.reduceLeDiff Nat.reduceAdd Nat.reduceMul Nat.reduceSub Nat.reduceDiv Nat.reduceMod Int.reduceToNat Int.reduceLT Int.reduceLE Int.reduceAdd Int.reduceSub Int.reduceMul Int.reduceEq Int.reduceNeg reduceCtorEq or_false false_or decide_true decide_false Int.cast_ofNat_Int Nat.zero_add Nat.add_zero Int.toNat_natCast Option.isNone_none Option.isNone_some Bool.not_true Bool.not_false Bool.xor_true Bool.xor_false Bool.true_xor Bool.false_xor Bool.and_true Bool.true_and Bool.and_false Bool.false_and eq_self ne_eq not_false_eq_true not_true_eq_false true_and and_true and_self
structure Deed10 where
  kind : Nat
  D : DlR
  p : Pt
  v : V4
  o : Bool
abbrev deed10K : List FL := .f (.i .u8) :: (dlrK ++ [.f .s, .f .s, .f .s, .f .b, .f .b, .f (.i .u8), .f (.i .u64), .f (.i .u64), .f (.i .u64), .f (.i .u64), .f .b])
def Deed10.row (d : Deed10) : List CV := [.v (.int .u8 d.kind), cu d.D.m.v.a, cu d.D.m.v.b, cu d.D.m.v.c, cu d.D.m.v.d, ci d.D.m.dc, .v (.bool d.D.mo), .v d.D.s.val, .v (.bool d.D.own), .v (.string d.p.x.b), .v (.string d.p.x.k), .v (.string d.p.x.x), .v (.bool d.p.x.g), .v (.bool d.p.own), .v (.int .u8 d.p.k), cu d.v.a, cu d.v.b, cu d.v.c, cu d.v.d, .v (.bool d.o)]
theorem row_deed10 {W : World} {l : List Value} (h : NOk W deed10K l) : ∃ d : Deed10, (d.kind < 256 ∧ d.D.ok W ∧ d.p.k < 256) ∧ l.map CV.v = d.row := by
  obtain ⟨a0, l0, rfl, w0, g0⟩ := nokI h
  obtain ⟨n, rfl, hn⟩ := u8_nat w0
  obtain ⟨D, hD, l1, h1, g1⟩ := row_dlr g0
  obtain ⟨b, l2, rfl, _, g2⟩ := nokS g1
  obtain ⟨k, l3, rfl, _, g3⟩ := nokS g2
  obtain ⟨x, l4, rfl, _, g4⟩ := nokS g3
  obtain ⟨g, l5, rfl, g5⟩ := nokB g4
  obtain ⟨o, l6, rfl, g6⟩ := nokB g5
  obtain ⟨q, l7, rfl, w7, g7⟩ := nokI g6
  obtain ⟨q, rfl, hq⟩ := u8_nat w7
  obtain ⟨v0, l8, rfl, _, g8⟩ := nokI g7
  obtain ⟨v1, l9, rfl, _, g9⟩ := nokI g8
  obtain ⟨v2, l10, rfl, _, g10⟩ := nokI g9
  obtain ⟨v3, l11, rfl, _, g11⟩ := nokI g10
  obtain ⟨vo, l12, rfl, g12⟩ := nokB g11
  obtain rfl := nok0 g12
  exact ⟨⟨n, D, ⟨⟨b, k, x, g⟩, o, q⟩, ⟨v0, v1, v2, v3⟩, vo⟩, ⟨hn, hD, hq⟩, by rw [List.map_cons, h1]; rfl⟩
structure P10 where
  i : Nat
  S : ShS
  fs : List Nat
  T : Nat
  NX : Nat
  lv : CV
  wv : CV
  lb : Blk
  wb : Blk
  its : List BatA
  fb : List Nat
def p10F (x0 : CV) (m0 : Nat) (r0 : Nat → List Value) (g : Nat) (p : P10) : St :=
  ⟨[(11, .c (ci p.i)), (10, .c (.p p.T 0 0)), (8, .c (.v (gptr g))), (7, .c (.v (.bool true))), (2, .c x0)], [(p.T, rsO p.S (p.wv.rn (p.T + ·)) (p.lv.rn (p.T + ·))), (p.T + 1, p.lb), (p.T + 2, p.wb), (p.T + 3, .pred p.fb (All BatQ p.its p.fb)), (1, .pred p.fs (On g (ShSh p.S) p.fs)), (0, .imm 20 m0 fun i => (r0 i).map .v)], p.NX⟩
structure Ok10 (i : Nat) (S : ShS) : Prop where
  wf : WfL S.l
  len : S.l.length + 10 * S.w.length ≤ 10 * i
  w : ∀ x, x ∈ S.w → x.2.length ≤ 10 ∧ x.1.right = true
  room : S.room ≤ 16
structure Inv10 (m0 : Nat) (p : P10) : Prop where
  i : p.i ≤ 50 ∧ p.i ≤ m0
  ok : Ok10 p.i p.S
  L : LV p.S.l p.lv p.lb
  W : WV p.its p.wv p.wb
  its : p.its.map BatA.bat = p.S.w
  T : 2 ≤ p.T ∧ p.T + 3 < p.NX
theorem Ok10.step {i : Nat} {S : ShS} (h : Ok10 i S) : Ok10 (i + 1) S.step := by
  rcases hw : S.w with _ | ⟨⟨st, ws⟩, rest⟩
  · have : S.step = S := by simp [ShS.step, hw]
    rw [this]
    exact ⟨h.wf, by have := h.len; omega, h.w, h.room⟩
  · have e : S.step = ⟨S.room, rest, ws.foldl (addV st) S.l, S.ap.wth st.dc (max st.n (S.ap.at st.dc))⟩ := by simp only [ShS.step, hw]
    obtain ⟨h1, h2⟩ : ws.length ≤ 10 ∧ st.right = true := h.w (st, ws) (by rw [hw]; simp)
    have h3 := foldA_len st ws S.l
    have h4 := h.len
    rw [hw, List.length_cons] at h4
    rw [e]
    refine ⟨?_, by simp only; omega, fun x hx => h.w x (by rw [hw]; simp; exact .inr hx), h.room⟩
    have := foldV_wf (st := st) (ws := ws) h.wf ws.length
    rwa [foldV_end] at this
theorem Ok10.prune {i : Nat} {S : ShS} (h : Ok10 i S) (v : V4) : Ok10 (i + 1) (S.prune v) := by
  have h1 : (pruL S.l v).length ≤ S.l.length := List.length_filter_le _ _
  have h4 := h.len
  exact ⟨h.wf.filter _, by show (pruL S.l v).length + 10 * S.w.length ≤ _; omega, h.w, h.room⟩
theorem Ok10.push {i : Nat} {S : ShS} (h : Ok10 i S) (st : Stp) (ws : List Wr) (hw : ws.length ≤ 10) : Ok10 (i + 1) (S.push st ws) := by
  have h4 := h.len
  cases hb : S.pushB st ws
  · rw [push_no hb]
    exact ⟨h.wf, by omega, h.w, h.room⟩
  · refine ⟨by rw [push_l]; exact h.wf, ?_, fun x hx => ?_, by rw [push_room]; exact h.room⟩
    · rw [push_l, push_w, if_pos hb, List.length_append]; simp only [List.length_cons, List.length_nil]; omega
    · rw [push_w, if_pos hb] at hx
      rcases List.mem_append.1 hx with hx | hx
      · exact h.w x hx
      · have : x = (st, ws) := by simpa using hx
        subst this
        refine ⟨hw, ?_⟩
        unfold ShS.pushB at hb
        cases hr : st.right
        · rw [hr] at hb; cases hb
        · rfl
structure J10 where
  S : ShS
  fs : List Nat
  fx : List Nat
  gx : Nat
  T : Nat
  NX : Nat
  q4 : Nat
  q5 : Nat
def j10Fr (x0 : CV) (g i : Nat) (p : J10) : List (Nat × SV) := [(16, .c (.v (.bool true))), (15, .c (.p p.q5 0 0)), (14, .c (.p p.q4 0 0)), (11, .c (ci i)), (10, .c (.v (gptr p.gx))), (8, .c (.v (gptr g))), (7, .c (.v (.bool true))), (2, .c x0)]
def j10Hp (m0 : Nat) (r0 : Nat → List Value) (g : Nat) (at' : V4) (y : Wr) (p : J10) : List (Nat × Blk) := [(p.q5, .cells 42 y.c), (p.q4, .cells 33 [cu at'.a, cu at'.b, cu at'.c, cu at'.d]), (p.T, .pred p.fx (On p.gx (RSd p.S) p.fx)), (1, .pred p.fs (On g (ShSh p.S) p.fs)), (0, .imm 20 m0 fun i => (r0 i).map .v)]
set_option maxHeartbeats 16000000 in
set_option maxRecDepth 100000 in
theorem shardPlays_c (w : World) (room : Int) (near : Bool) {b0 o0 m0 : Nat} {r0 : Nat → List Value} {x0 : CV} {v0 : Value} (i0 : ImmAt w b0 o0 20 m0 r0) (l0 : LArg 0 m0 x0)
    (e0 : ∀ ρ : Env, ρ 0 = ⟨b0, o0, 20⟩ → x0.den ρ = v0) (f0 : ∀ i, i < m0 → NOk w deed10K (r0 i)) :
    Calls Try.prog 3 #[.int .i64 room, .bool near, v0] w fun e w' => e = .returned (.bool true) ∧ Below w.heap.size w w' := by
  refine calls_imm [⟨b0, o0, 20, m0, r0⟩] (by simp; exact i0) 244 _ Try.func3 rfl Try.ntmps3 Try.results3 [.c (ci room), .c (.v (.bool near)), .c x0] (by simp) (fun ρ h => by simp [SV.denL, SV.den, CV.den, e0 ρ (h 0 (by simp))]) ?_
  have n0 := l0.len
  simp only [immL, List.length_cons, List.length_nil, Nat.zero_add, Nat.reduceAdd]
  simp only [go_sem]
  refine scall_pure [] (.c (.v (.bool true))) (.bool true) Try.call8 ex_c rfl (fun _ => rfl) (fun _ => rfl) ?_
  apply join (α := Int) (fun _ => True)
  · intro main
    rcases Bool.eq_false_or_eq_true near with hn | hn
    case inr =>
      rw [hn]
      simp (disch := omega) only [go_sem, wrapI64, wrapu64, wrapu32, wrapu8, ltT, ltF, leT, leF, eqF, eqT, nltT, nleT, neqFn]
      obtain ⟨rm, hrm⟩ : ∃ rm : Int, room = rm := ⟨_, rfl⟩
      rw [hrm]
      exact scall_drop (fr' := [(0, .c (ci rm)), (2, .c x0), (7, .c (.v (.bool true)))]) (hp' := [(0, .imm 20 m0 fun i => (r0 i).map .v)]) ⟨rfl, rfl, rfl, trivial⟩ ⟨rfl, trivial⟩ (by simp) (main rm trivial)
    case inl =>
      rw [hn]
      simp (disch := omega) only [go_sem, wrapI64, wrapu64, wrapu32, wrapu8, ltT, ltF, leT, leF, eqF, eqT, nltT, nleT, neqFn]
      obtain ⟨rm, hrm⟩ : ∃ rm : Int, IntKind.i64.wrap (1 + IntKind.i64.wrap ((IntKind.u64.wrap room).tmod 6)) = rm := ⟨_, rfl⟩
      rw [hrm]
      exact scall_drop (fr' := [(0, .c (ci rm)), (2, .c x0), (7, .c (.v (.bool true)))]) (hp' := [(0, .imm 20 m0 fun i => (r0 i).map .v)]) ⟨rfl, rfl, rfl, trivial⟩ ⟨rfl, trivial⟩ (by simp) (main rm trivial)
  intro rm _
  cases hok : roomOk rm
  · refine shnew_bad hok ?_
    simp (disch := omega) only [go_sem, wrapI64, wrapu64, wrapu32, wrapu8, ltT, ltF, leT, leF, eqF, eqT, nltT, nleT, neqFn]
    refine xnew_bad hok ?_
    simp (disch := omega) only [go_sem, wrapI64, wrapu64, wrapu32, wrapu8, ltT, ltF, leT, leF, eqF, eqT, nltT, nleT, neqFn]
    exact fun ρ a w hs _ => ⟨rfl, hs.grown⟩
  have hrm : 1 ≤ rm ∧ rm ≤ 16 := by simpa [roomOk] using hok
  refine shnew_s hok rfl fun g fs0 => ?_
  simp (disch := omega) only [go_sem, wrapI64, wrapu64, wrapu32, wrapu8, ltT, ltF, leT, leF, eqF, eqT, nltT, nleT, neqFn]
  refine xnew_s hok rfl fun gx fx0 => ?_
  simp (disch := omega) only [go_sem, wrapI64, wrapu64, wrapu32, wrapu8, ltT, ltF, leT, leF, eqF, eqT, nltT, nleT, neqFn]
  refine scode_open 2 [10] rfl (fun t ht => by rw [List.mem_singleton.1 ht]; rfl) fun nx' hp' hsh => ?_
  obtain ⟨rfl, lv, lb, wv, wb, its, fb, hL, hW, hi, rfl⟩ := hsh
  simp (disch := omega) only [go_sem, wrapI64, wrapu64, wrapu32, wrapu8, ltT, ltF, leT, leF, eqF, eqT, nltT, nleT, neqFn]
  refine sloop (p10F x0 m0 r0 g) (Inv10 m0) (fun p => 50 - p.i) ⟨0, ShS.new rm.toNat, fs0, 3, 7, lv, wv, lb, wb, its, fb⟩
    ⟨⟨by show 0 ≤ 50; omega, by show 0 ≤ m0; omega⟩, ⟨WfL.nil, by simp [ShS.new], fun x hx => by simp [ShS.new] at hx, by show rm.toNat ≤ 16; omega⟩, hL, hW, hi, ⟨by show 2 ≤ 3; omega, by show 3 + 3 < 7; omega⟩⟩ (ent_drop ⟨rfl, rfl, rfl, rfl, rfl, trivial⟩ ⟨rfl, congrArg some (hL.blk.2.2.2.1 (3 + ·)), congrArg some (hW.blk.2.2.2.1 (3 + ·)), rfl, rfl, rfl, trivial⟩ (by simp [p10F])) (fun p hp => ?_)
  obtain ⟨i, S, fs, T, NX, lv, wv, lb, wb, its, fb⟩ := p
  obtain ⟨⟨h50, him⟩, hO, hL, hW, hits, hT2, hTN⟩ := hp
  dsimp only at h50 him hO hL hW hits hT2 hTN
  unfold p10F
  dsimp only
  by_cases hgo : i < m0 ∧ i < 50
  case neg =>
    rcases Nat.lt_or_ge i m0 with h1 | h1
    · have h2 : i = 50 := by omega
      subst h2
      simp (disch := omega) only [go_sem, wrapI64, wrapu64, wrapu32, wrapu8, ltT, ltF, leT, leF, eqF, eqT, nltT, nleT, neqFn, n0]
      exact fun ρ a w hs _ => ⟨rfl, hs.grown⟩
    · simp (disch := omega) only [go_sem, wrapI64, wrapu64, wrapu32, wrapu8, ltT, ltF, leT, leF, eqF, eqT, nltT, nleT, neqFn, n0]
      exact fun ρ a w hs _ => ⟨rfl, hs.grown⟩
  obtain ⟨h1, h2⟩ := hgo
  obtain ⟨cp, rfl⟩ := l0.pos (by omega)
  obtain ⟨D, ⟨hk0, hD, hk1⟩, hrow⟩ := row_deed10 (f0 _ h1)
  unfold Deed10.row at hrow
  obtain ⟨r, hr, hr9⟩ : ∃ r : Nat, (D.kind : Int).tmod 8 = (r : Int) ∧ r < 8 := ⟨D.kind % 8, rfl, Nat.mod_lt _ (by omega)⟩
  obtain ⟨at', hat⟩ : ∃ x, x = few D.v D.o := ⟨_, rfl⟩
  obtain ⟨y, hy⟩ : ∃ y, y = pwr D.p.x D.p.own D.p.k := ⟨_, rfl⟩
  obtain ⟨st, hst⟩ : ∃ st, st = mk D.D.m (D.D.own || D.D.mo) := ⟨_, rfl⟩
  have hsl := hO.len
  have hSw : S.w.length ≤ 50 := by omega
  have hSl : S.l.length ≤ 500 := by omega
  have hw1000 : ∀ x, x ∈ S.w → x.2.length ≤ 1000 ∧ x.1.right = true := fun x hx => ⟨by have := (hO.w x hx).1; omega, (hO.w x hx).2⟩
  simp (disch := omega) only [go_sem, wrapI64, wrapu64, wrapu32, wrapu8, ltT, ltF, leT, leF, eqF, eqT, nltT, nleT, neqFn, hrow, h1, h2]
  refine scall_close (T + ·) (RSd S) 4 [(0, rsO S wv lv), (1, lb), (2, wb), (3, .pred fb (All BatQ its fb))] [10] (fun _ => [.agg [cu D.D.m.v.a, cu D.D.m.v.b, cu D.D.m.v.c, cu D.D.m.v.d, ci D.D.m.dc, .v (.bool D.D.mo), .v D.D.s.val, .v (.bool D.D.own)]]) (rsd_ent S (T + ·) hL hW (by simp (disch := omega) only [go_sem, wrapI64, wrapu64, wrapu32, wrapu8, ltT, ltF, leT, leF, eqF, eqT, nltT, nleT, neqFn]) (by simp (disch := omega) only [go_sem, wrapI64, wrapu64, wrapu32, wrapu8, ltT, ltF, leT, leF, eqF, eqT, nltT, nleT, neqFn]) (by simp (disch := omega) only [go_sem, wrapI64, wrapu64, wrapu32, wrapu8, ltT, ltF, leT, leF, eqF, eqT, nltT, nleT, neqFn]) (by simp (disch := omega) only [go_sem, wrapI64, wrapu64, wrapu32, wrapu8, ltT, ltF, leT, leF, eqF, eqT, nltT, nleT, neqFn])) (by simp) (rsd_sol S hL hW) ⟨rfl, lv, lb, wv, wb, its, fb, hL, hW, hits, rfl⟩ (.head _) rfl (by omega) (fun t ht => by rw [List.mem_singleton.1 ht]; rfl) rfl (fun _ _ => rfl) fun gx fx => ?_
  simp (disch := omega) only [go_sem, wrapI64, wrapu64, wrapu32, wrapu8, ltT, ltF, leT, leF, eqF, eqT, nltT, nleT, neqFn]
  apply join (α := J10) (fun p => Ok10 (i + 1) p.S ∧ (2 ≤ p.T ∧ 2 ≤ p.q4 ∧ 2 ≤ p.q5) ∧ (p.T ≠ p.q4 ∧ p.T ≠ p.q5 ∧ p.q4 ≠ p.q5) ∧ p.T < p.NX ∧ p.q4 < p.NX ∧ p.q5 < p.NX)
  · intro main
    refine deal_s D.D.m D.D.mo D.D.own D.D.s hD.s (fun _ h => h) rfl fun ws hP => ⟨fun hn => ?_, fun c hc hpos => ?_⟩
    · rw [← hst]
      simp (disch := omega) only [go_sem, wrapI64, wrapu64, wrapu32, wrapu8, ltT, ltF, leT, leF, eqF, eqT, nltT, nleT, neqFn]
      refine vector_s D.v D.o ?_
      rw [← hat]
      simp (disch := omega) only [go_sem, wrapI64, wrapu64, wrapu32, wrapu8, ltT, ltF, leT, leF, eqF, eqT, nltT, nleT, neqFn]
      refine pwrite_s D.p.x D.p.own D.p.k hk1 ?_
      rw [← hy]
      simp (disch := omega) only [go_sem, wrapI64, wrapu64, wrapu32, wrapu8, ltT, ltF, leT, leF, eqF, eqT, nltT, nleT, neqFn, hr]
      by_cases h456 : r = 4 ∨ r = 5 ∨ r = 6
      · rcases h456 with h | h | h
        all_goals
          simp (disch := omega) only [go_sem, wrapI64, wrapu64, wrapu32, wrapu8, ltT, ltF, leT, leF, eqF, eqT, nltT, nleT, neqFn]
          refine shstep_s 1 (g := g) (s := S) (fp := fs) (by omega) (fun x hx => (hw1000 x hx).1) (by simp (disch := omega) only [go_sem, wrapI64, wrapu64, wrapu32, wrapu8, ltT, ltF, leT, leF, eqF, eqT, nltT, nleT, neqFn]) rfl fun fs2 => ?_
          simp (disch := omega) only [go_sem, wrapI64, wrapu64, wrapu32, wrapu8, ltT, ltF, leT, leF, eqF, eqT, nltT, nleT, neqFn]
          refine xstep_s T (g := gx) (s := S) (fp := fx) hO.wf (by omega) hw1000 (by simp (disch := omega) only [go_sem, wrapI64, wrapu64, wrapu32, wrapu8, ltT, ltF, leT, leF, eqF, eqT, nltT, nleT, neqFn]) rfl fun fx2 => ?_
          simp (disch := omega) only [go_sem, wrapI64, wrapu64, wrapu32, wrapu8, ltT, ltF, leT, leF, eqF, eqT, nltT, nleT, neqFn]
          obtain ⟨p, hp⟩ : ∃ p : J10, p = ⟨S.step, fs2, fx2, gx, T, NX + 1 + 1 + 1 + 1, NX + 1 + 1, NX + 1 + 1 + 1⟩ := ⟨_, rfl⟩
          have hN : NX + 1 + 1 + 1 + 1 = p.NX := by rw [hp]
          rw [hN]
          exact scall_drop (fr' := j10Fr (.s 0 0 m0 cp) g i p) (hp' := j10Hp m0 r0 g at' y p) (by rw [hp]; exact ⟨rfl, rfl, rfl, rfl, rfl, rfl, rfl, rfl, trivial⟩) (by rw [hp]; exact ⟨by simp (disch := omega) only [go_sem, wrapI64, wrapu64, wrapu32, wrapu8, ltT, ltF, leT, leF, eqF, eqT, nltT, nleT, neqFn], by simp (disch := omega) only [go_sem, wrapI64, wrapu64, wrapu32, wrapu8, ltT, ltF, leT, leF, eqF, eqT, nltT, nleT, neqFn], by simp (disch := omega) only [go_sem, wrapI64, wrapu64, wrapu32, wrapu8, ltT, ltF, leT, leF, eqF, eqT, nltT, nleT, neqFn], by simp (disch := omega) only [go_sem, wrapI64, wrapu64, wrapu32, wrapu8, ltT, ltF, leT, leF, eqF, eqT, nltT, nleT, neqFn], by simp (disch := omega) only [go_sem, wrapI64, wrapu64, wrapu32, wrapu8, ltT, ltF, leT, leF, eqF, eqT, nltT, nleT, neqFn], trivial⟩) (by rw [hp]; simp [j10Hp]; omega) (main p (by rw [hp]; exact ⟨hO.step, by dsimp only; omega, by dsimp only; omega, by dsimp only; omega⟩))
      · have h4 : r ≠ 4 ∧ r ≠ 5 ∧ r ≠ 6 := ⟨fun h => h456 (.inl h), fun h => h456 (.inr (.inl h)), fun h => h456 (.inr (.inr h))⟩
        by_cases h7 : r = 7
        · simp (disch := omega) only [go_sem, wrapI64, wrapu64, wrapu32, wrapu8, ltT, ltF, leT, leF, eqF, eqT, nltT, nleT, neqFn]
          refine sdraw [.t 0, .t 1, .t 3, .t 4, .r 2, .r 5, .t 6, .t 7] 8 [(NX + 1 + 1, _)] rfl (by kernel_rfl) ⟨by simp (disch := omega) only [go_sem, wrapI64, wrapu64, wrapu32, wrapu8, ltT, ltF, leT, leF, eqF, eqT, nltT, nleT, neqFn]; rfl, trivial⟩ ?_
          simp (disch := omega) only [go_sem, wrapI64, wrapu64, wrapu32, wrapu8, ltT, ltF, leT, leF, eqF, eqT, nltT, nleT, neqFn]
          refine shprune_s 1 (g := g) (s := S) (fp := fs) (by omega) at' (by simp (disch := omega) only [go_sem, wrapI64, wrapu64, wrapu32, wrapu8, ltT, ltF, leT, leF, eqF, eqT, nltT, nleT, neqFn]) rfl fun fs2 => ?_
          simp (disch := omega) only [go_sem, wrapI64, wrapu64, wrapu32, wrapu8, ltT, ltF, leT, leF, eqF, eqT, nltT, nleT, neqFn]
          refine xprune_s T (g := gx) (s := S) (fp := fx) hO.wf (by omega) at' (by simp (disch := omega) only [go_sem, wrapI64, wrapu64, wrapu32, wrapu8, ltT, ltF, leT, leF, eqF, eqT, nltT, nleT, neqFn]) rfl fun fx2 => ?_
          simp (disch := omega) only [go_sem, wrapI64, wrapu64, wrapu32, wrapu8, ltT, ltF, leT, leF, eqF, eqT, nltT, nleT, neqFn]
          obtain ⟨p, hp⟩ : ∃ p : J10, p = ⟨S.prune at', fs2, fx2, gx, T, NX + 1 + 1 + 1 + 1, NX + 1 + 1, NX + 1 + 1 + 1⟩ := ⟨_, rfl⟩
          have hN : NX + 1 + 1 + 1 + 1 = p.NX := by rw [hp]
          rw [hN]
          exact scall_drop (fr' := j10Fr (.s 0 0 m0 cp) g i p) (hp' := j10Hp m0 r0 g at' y p) (by rw [hp]; exact ⟨rfl, rfl, rfl, rfl, rfl, rfl, rfl, rfl, trivial⟩) (by rw [hp]; exact ⟨by simp (disch := omega) only [go_sem, wrapI64, wrapu64, wrapu32, wrapu8, ltT, ltF, leT, leF, eqF, eqT, nltT, nleT, neqFn], by simp (disch := omega) only [go_sem, wrapI64, wrapu64, wrapu32, wrapu8, ltT, ltF, leT, leF, eqF, eqT, nltT, nleT, neqFn], by simp (disch := omega) only [go_sem, wrapI64, wrapu64, wrapu32, wrapu8, ltT, ltF, leT, leF, eqF, eqT, nltT, nleT, neqFn], by simp (disch := omega) only [go_sem, wrapI64, wrapu64, wrapu32, wrapu8, ltT, ltF, leT, leF, eqF, eqT, nltT, nleT, neqFn], by simp (disch := omega) only [go_sem, wrapI64, wrapu64, wrapu32, wrapu8, ltT, ltF, leT, leF, eqF, eqT, nltT, nleT, neqFn], trivial⟩) (by rw [hp]; simp [j10Hp]; omega) (main p (by rw [hp]; exact ⟨hO.prune at', by dsimp only; omega, by dsimp only; omega, by dsimp only; omega⟩))
        · simp (disch := omega) only [go_sem, wrapI64, wrapu64, wrapu32, wrapu8, ltT, ltF, leT, leF, eqF, eqT, nltT, nleT, neqFn]
          refine sdraw [.t 0, .t 1, .t 2, .t 3, .t 4, .t 6, .t 7, .t 8, .t 10, .t 11, .r 5, .r 9, .r 12, .r 13, .t 14, .t 15] 16 [(NX + 1, _)] rfl (by kernel_rfl) ⟨by simp (disch := omega) only [go_sem, wrapI64, wrapu64, wrapu32, wrapu8, ltT, ltF, leT, leF, eqF, eqT, nltT, nleT, neqFn]; rfl, trivial⟩ ?_
          simp (disch := omega) only [go_sem, wrapI64, wrapu64, wrapu32, wrapu8, ltT, ltF, leT, leF, eqF, eqT, nltT, nleT, neqFn]
          refine shpush_s 1 (g := g) (s := S) (fp := fs) st ws (.nil hn) (by have := hP.len; omega) (by simp (disch := omega) only [go_sem, wrapI64, wrapu64, wrapu32, wrapu8, ltT, ltF, leT, leF, eqF, eqT, nltT, nleT, neqFn]) rfl fun fs2 => ?_
          simp (disch := omega) only [go_sem, wrapI64, wrapu64, wrapu32, wrapu8, ltT, ltF, leT, leF, eqF, eqT, nltT, nleT, neqFn]
          refine rfst_s (x := st) ?_
          simp (disch := omega) only [go_sem, wrapI64, wrapu64, wrapu32, wrapu8, ltT, ltF, leT, leF, eqF, eqT, nltT, nleT, neqFn]
          refine refw0_s (Nat.le_of_ble_eq_true rfl) ?_
          simp (disch := omega) only [go_sem, wrapI64, wrapu64, wrapu32, wrapu8, ltT, ltF, leT, leF, eqF, eqT, nltT, nleT, neqFn]
          refine xpush_s T (g := gx) (s := S) (fp := fx) st ws (.nil hn) (by have := hP.len; omega) (by omega) (by simp (disch := omega) only [go_sem, wrapI64, wrapu64, wrapu32, wrapu8, ltT, ltF, leT, leF, eqF, eqT, nltT, nleT, neqFn]) rfl fun fx2 => ?_
          simp (disch := omega) only [go_sem, wrapI64, wrapu64, wrapu32, wrapu8, ltT, ltF, leT, leF, eqF, eqT, nltT, nleT, neqFn]
          obtain ⟨p, hp⟩ : ∃ p : J10, p = ⟨S.push st ws, fs2, fx2, gx, T, NX + 1 + 1 + 1 + 1, NX + 1 + 1, NX + 1 + 1 + 1⟩ := ⟨_, rfl⟩
          have hN : NX + 1 + 1 + 1 + 1 = p.NX := by rw [hp]
          rw [hN]
          exact scall_drop (fr' := j10Fr (.s 0 0 m0 cp) g i p) (hp' := j10Hp m0 r0 g at' y p) (by rw [hp]; exact ⟨rfl, rfl, rfl, rfl, rfl, rfl, rfl, rfl, trivial⟩) (by rw [hp]; exact ⟨by simp (disch := omega) only [go_sem, wrapI64, wrapu64, wrapu32, wrapu8, ltT, ltF, leT, leF, eqF, eqT, nltT, nleT, neqFn], by simp (disch := omega) only [go_sem, wrapI64, wrapu64, wrapu32, wrapu8, ltT, ltF, leT, leF, eqF, eqT, nltT, nleT, neqFn], by simp (disch := omega) only [go_sem, wrapI64, wrapu64, wrapu32, wrapu8, ltT, ltF, leT, leF, eqF, eqT, nltT, nleT, neqFn], by simp (disch := omega) only [go_sem, wrapI64, wrapu64, wrapu32, wrapu8, ltT, ltF, leT, leF, eqF, eqT, nltT, nleT, neqFn], by simp (disch := omega) only [go_sem, wrapI64, wrapu64, wrapu32, wrapu8, ltT, ltF, leT, leF, eqF, eqT, nltT, nleT, neqFn], trivial⟩) (by rw [hp]; simp [j10Hp]; omega) (main p (by rw [hp]; exact ⟨hO.push st ws hP.len, by dsimp only; omega, by dsimp only; omega, by dsimp only; omega⟩))
    · rw [← hst]
      simp (disch := omega) only [go_sem, wrapI64, wrapu64, wrapu32, wrapu8, ltT, ltF, leT, leF, eqF, eqT, nltT, nleT, neqFn]
      refine vector_s D.v D.o ?_
      rw [← hat]
      simp (disch := omega) only [go_sem, wrapI64, wrapu64, wrapu32, wrapu8, ltT, ltF, leT, leF, eqF, eqT, nltT, nleT, neqFn]
      refine pwrite_s D.p.x D.p.own D.p.k hk1 ?_
      rw [← hy]
      simp (disch := omega) only [go_sem, wrapI64, wrapu64, wrapu32, wrapu8, ltT, ltF, leT, leF, eqF, eqT, nltT, nleT, neqFn, hr]
      by_cases h456 : r = 4 ∨ r = 5 ∨ r = 6
      · rcases h456 with h | h | h
        all_goals
          simp (disch := omega) only [go_sem, wrapI64, wrapu64, wrapu32, wrapu8, ltT, ltF, leT, leF, eqF, eqT, nltT, nleT, neqFn]
          refine shstep_s 1 (g := g) (s := S) (fp := fs) (by omega) (fun x hx => (hw1000 x hx).1) (by simp (disch := omega) only [go_sem, wrapI64, wrapu64, wrapu32, wrapu8, ltT, ltF, leT, leF, eqF, eqT, nltT, nleT, neqFn]) rfl fun fs2 => ?_
          simp (disch := omega) only [go_sem, wrapI64, wrapu64, wrapu32, wrapu8, ltT, ltF, leT, leF, eqF, eqT, nltT, nleT, neqFn]
          refine xstep_s T (g := gx) (s := S) (fp := fx) hO.wf (by omega) hw1000 (by simp (disch := omega) only [go_sem, wrapI64, wrapu64, wrapu32, wrapu8, ltT, ltF, leT, leF, eqF, eqT, nltT, nleT, neqFn]) rfl fun fx2 => ?_
          simp (disch := omega) only [go_sem, wrapI64, wrapu64, wrapu32, wrapu8, ltT, ltF, leT, leF, eqF, eqT, nltT, nleT, neqFn]
          obtain ⟨p, hp⟩ : ∃ p : J10, p = ⟨S.step, fs2, fx2, gx, T, NX + 1 + 1 + 1 + 1 + 1, NX + 1 + 1 + 1, NX + 1 + 1 + 1 + 1⟩ := ⟨_, rfl⟩
          have hN : NX + 1 + 1 + 1 + 1 + 1 = p.NX := by rw [hp]
          rw [hN]
          exact scall_drop (fr' := j10Fr (.s 0 0 m0 cp) g i p) (hp' := j10Hp m0 r0 g at' y p) (by rw [hp]; exact ⟨rfl, rfl, rfl, rfl, rfl, rfl, rfl, rfl, trivial⟩) (by rw [hp]; exact ⟨by simp (disch := omega) only [go_sem, wrapI64, wrapu64, wrapu32, wrapu8, ltT, ltF, leT, leF, eqF, eqT, nltT, nleT, neqFn], by simp (disch := omega) only [go_sem, wrapI64, wrapu64, wrapu32, wrapu8, ltT, ltF, leT, leF, eqF, eqT, nltT, nleT, neqFn], by simp (disch := omega) only [go_sem, wrapI64, wrapu64, wrapu32, wrapu8, ltT, ltF, leT, leF, eqF, eqT, nltT, nleT, neqFn], by simp (disch := omega) only [go_sem, wrapI64, wrapu64, wrapu32, wrapu8, ltT, ltF, leT, leF, eqF, eqT, nltT, nleT, neqFn], by simp (disch := omega) only [go_sem, wrapI64, wrapu64, wrapu32, wrapu8, ltT, ltF, leT, leF, eqF, eqT, nltT, nleT, neqFn], trivial⟩) (by rw [hp]; simp [j10Hp]; omega) (main p (by rw [hp]; exact ⟨hO.step, by dsimp only; omega, by dsimp only; omega, by dsimp only; omega⟩))
      · have h4 : r ≠ 4 ∧ r ≠ 5 ∧ r ≠ 6 := ⟨fun h => h456 (.inl h), fun h => h456 (.inr (.inl h)), fun h => h456 (.inr (.inr h))⟩
        by_cases h7 : r = 7
        · simp (disch := omega) only [go_sem, wrapI64, wrapu64, wrapu32, wrapu8, ltT, ltF, leT, leF, eqF, eqT, nltT, nleT, neqFn]
          refine sdraw [.t 0, .t 1, .t 3, .t 4, .r 2, .r 5, .t 6, .t 7] 8 [(NX + 1 + 1 + 1, _)] rfl (by kernel_rfl) ⟨by simp (disch := omega) only [go_sem, wrapI64, wrapu64, wrapu32, wrapu8, ltT, ltF, leT, leF, eqF, eqT, nltT, nleT, neqFn]; rfl, trivial⟩ ?_
          simp (disch := omega) only [go_sem, wrapI64, wrapu64, wrapu32, wrapu8, ltT, ltF, leT, leF, eqF, eqT, nltT, nleT, neqFn]
          refine shprune_s 1 (g := g) (s := S) (fp := fs) (by omega) at' (by simp (disch := omega) only [go_sem, wrapI64, wrapu64, wrapu32, wrapu8, ltT, ltF, leT, leF, eqF, eqT, nltT, nleT, neqFn]) rfl fun fs2 => ?_
          simp (disch := omega) only [go_sem, wrapI64, wrapu64, wrapu32, wrapu8, ltT, ltF, leT, leF, eqF, eqT, nltT, nleT, neqFn]
          refine xprune_s T (g := gx) (s := S) (fp := fx) hO.wf (by omega) at' (by simp (disch := omega) only [go_sem, wrapI64, wrapu64, wrapu32, wrapu8, ltT, ltF, leT, leF, eqF, eqT, nltT, nleT, neqFn]) rfl fun fx2 => ?_
          simp (disch := omega) only [go_sem, wrapI64, wrapu64, wrapu32, wrapu8, ltT, ltF, leT, leF, eqF, eqT, nltT, nleT, neqFn]
          obtain ⟨p, hp⟩ : ∃ p : J10, p = ⟨S.prune at', fs2, fx2, gx, T, NX + 1 + 1 + 1 + 1 + 1, NX + 1 + 1 + 1, NX + 1 + 1 + 1 + 1⟩ := ⟨_, rfl⟩
          have hN : NX + 1 + 1 + 1 + 1 + 1 = p.NX := by rw [hp]
          rw [hN]
          exact scall_drop (fr' := j10Fr (.s 0 0 m0 cp) g i p) (hp' := j10Hp m0 r0 g at' y p) (by rw [hp]; exact ⟨rfl, rfl, rfl, rfl, rfl, rfl, rfl, rfl, trivial⟩) (by rw [hp]; exact ⟨by simp (disch := omega) only [go_sem, wrapI64, wrapu64, wrapu32, wrapu8, ltT, ltF, leT, leF, eqF, eqT, nltT, nleT, neqFn], by simp (disch := omega) only [go_sem, wrapI64, wrapu64, wrapu32, wrapu8, ltT, ltF, leT, leF, eqF, eqT, nltT, nleT, neqFn], by simp (disch := omega) only [go_sem, wrapI64, wrapu64, wrapu32, wrapu8, ltT, ltF, leT, leF, eqF, eqT, nltT, nleT, neqFn], by simp (disch := omega) only [go_sem, wrapI64, wrapu64, wrapu32, wrapu8, ltT, ltF, leT, leF, eqF, eqT, nltT, nleT, neqFn], by simp (disch := omega) only [go_sem, wrapI64, wrapu64, wrapu32, wrapu8, ltT, ltF, leT, leF, eqF, eqT, nltT, nleT, neqFn], trivial⟩) (by rw [hp]; simp [j10Hp]; omega) (main p (by rw [hp]; exact ⟨hO.prune at', by dsimp only; omega, by dsimp only; omega, by dsimp only; omega⟩))
        · simp (disch := omega) only [go_sem, wrapI64, wrapu64, wrapu32, wrapu8, ltT, ltF, leT, leF, eqF, eqT, nltT, nleT, neqFn]
          refine sdraw [.t 0, .t 1, .t 2, .t 3, .t 4, .t 6, .t 7, .t 8, .t 10, .t 11, .r 5, .r 9, .r 12, .r 13, .t 14, .t 15] 16 [(NX + 1 + 1, _)] rfl (by kernel_rfl) ⟨by simp (disch := omega) only [go_sem, wrapI64, wrapu64, wrapu32, wrapu8, ltT, ltF, leT, leF, eqF, eqT, nltT, nleT, neqFn]; rfl, trivial⟩ ?_
          simp (disch := omega) only [go_sem, wrapI64, wrapu64, wrapu32, wrapu8, ltT, ltF, leT, leF, eqF, eqT, nltT, nleT, neqFn]
          refine shpush_s 1 (g := g) (s := S) (fp := fs) st ws (  .rows (NX + 1) c ws.length c _ (by simp (disch := omega) only [go_sem, wrapI64, wrapu64, wrapu32, wrapu8, ltT, ltF, leT, leF, eqF, eqT, nltT, nleT, neqFn]) ⟨hpos, Nat.le_refl _⟩ (fun i hi => rfl)) (by have := hP.len; omega) (by simp (disch := omega) only [go_sem, wrapI64, wrapu64, wrapu32, wrapu8, ltT, ltF, leT, leF, eqF, eqT, nltT, nleT, neqFn]) rfl fun fs2 => ?_
          simp (disch := omega) only [go_sem, wrapI64, wrapu64, wrapu32, wrapu8, ltT, ltF, leT, leF, eqF, eqT, nltT, nleT, neqFn]
          refine rfst_s (x := st) ?_
          simp (disch := omega) only [go_sem, wrapI64, wrapu64, wrapu32, wrapu8, ltT, ltF, leT, leF, eqF, eqT, nltT, nleT, neqFn]
          refine refw_s (ws := ws) ⟨NX + 1, 0, c, rfl, hpos, .inl ⟨ws.length, c, (fun j => (wrw ws j).map .v), by simp (disch := omega) only [go_sem, wrapI64, wrapu64, wrapu32, wrapu8, ltT, ltF, leT, leF, eqF, eqT, nltT, nleT, neqFn], by omega, fun i hi => by rw [Nat.zero_add]⟩⟩ (by have := hP.len; omega) (Nat.le_of_ble_eq_true rfl) fun n2 c2 nx2 hn2 => ?_
          simp (disch := omega) only [go_sem, wrapI64, wrapu64, wrapu32, wrapu8, ltT, ltF, leT, leF, eqF, eqT, nltT, nleT, neqFn]
          refine xpush_s T (g := gx) (s := S) (fp := fx) st ws (.rows n2 c2 ws.length c2 _ (by simp (disch := omega) only [go_sem, wrapI64, wrapu64, wrapu32, wrapu8, ltT, ltF, leT, leF, eqF, eqT, nltT, nleT, neqFn]) ⟨hpos, Nat.le_refl _⟩ (fun i hi => rfl)) (by have := hP.len; omega) (by omega) (by simp (disch := omega) only [go_sem, wrapI64, wrapu64, wrapu32, wrapu8, ltT, ltF, leT, leF, eqF, eqT, nltT, nleT, neqFn]) rfl fun fx2 => ?_
          simp (disch := omega) only [go_sem, wrapI64, wrapu64, wrapu32, wrapu8, ltT, ltF, leT, leF, eqF, eqT, nltT, nleT, neqFn]
          obtain ⟨p, hp⟩ : ∃ p : J10, p = ⟨S.push st ws, fs2, fx2, gx, T, nx2, NX + 1 + 1 + 1, NX + 1 + 1 + 1 + 1⟩ := ⟨_, rfl⟩
          have hN : nx2 = p.NX := by rw [hp]
          rw [hN]
          exact scall_drop (fr' := j10Fr (.s 0 0 m0 cp) g i p) (hp' := j10Hp m0 r0 g at' y p) (by rw [hp]; exact ⟨rfl, rfl, rfl, rfl, rfl, rfl, rfl, rfl, trivial⟩) (by rw [hp]; exact ⟨by simp (disch := omega) only [go_sem, wrapI64, wrapu64, wrapu32, wrapu8, ltT, ltF, leT, leF, eqF, eqT, nltT, nleT, neqFn], by simp (disch := omega) only [go_sem, wrapI64, wrapu64, wrapu32, wrapu8, ltT, ltF, leT, leF, eqF, eqT, nltT, nleT, neqFn], by simp (disch := omega) only [go_sem, wrapI64, wrapu64, wrapu32, wrapu8, ltT, ltF, leT, leF, eqF, eqT, nltT, nleT, neqFn], by simp (disch := omega) only [go_sem, wrapI64, wrapu64, wrapu32, wrapu8, ltT, ltF, leT, leF, eqF, eqT, nltT, nleT, neqFn], by simp (disch := omega) only [go_sem, wrapI64, wrapu64, wrapu32, wrapu8, ltT, ltF, leT, leF, eqF, eqT, nltT, nleT, neqFn], trivial⟩) (by rw [hp]; simp [j10Hp]; omega) (main p (by rw [hp]; exact ⟨hO.push st ws hP.len, by dsimp only; omega, by dsimp only; omega, by dsimp only; omega⟩))
  · rintro ⟨S2, fs2, fx2, gx2, T2, NX2, q4, q5⟩ ⟨hO2, ⟨hT1, hq4, hq5⟩, ⟨hd1, hd2, hd3⟩, hT3, hq6, hq7⟩
    dsimp only at hO2 hT1 hq4 hq5 hd1 hd2 hd3 hT3 hq6 hq7
    have hl2 := hO2.len
    have hl3 : S2.l.length ≤ 1000 := by omega
    have hw3 : S2.w.length ≤ 1000 := by omega
    unfold j10Fr j10Hp
    dsimp only
    refine shread_s 1 (g := g) (s := S2) (fp := fs2) (by omega) y.kk at' (by simp (disch := omega) only [go_sem, wrapI64, wrapu64, wrapu32, wrapu8, ltT, ltF, leT, leF, eqF, eqT, nltT, nleT, neqFn]) rfl fun fs3 => ?_
    simp (disch := omega) only [go_sem, wrapI64, wrapu64, wrapu32, wrapu8, ltT, ltF, leT, leF, eqF, eqT, nltT, nleT, neqFn]
    refine xread_s T2 (g := gx2) (s := S2) (fp := fx2) hO2.wf (by omega) y.kk at' (by simp (disch := omega) only [go_sem, wrapI64, wrapu64, wrapu32, wrapu8, ltT, ltF, leT, leF, eqF, eqT, nltT, nleT, neqFn]) rfl ?_
    simp (disch := omega) only [go_sem, wrapI64, wrapu64, wrapu32, wrapu8, ltT, ltF, leT, leF, eqF, eqT, nltT, nleT, neqFn]
    refine shlast_s 1 (g := g) (s := S2) (fp := fs3) (by omega) y.kk (by simp (disch := omega) only [go_sem, wrapI64, wrapu64, wrapu32, wrapu8, ltT, ltF, leT, leF, eqF, eqT, nltT, nleT, neqFn]) rfl fun fs4 => ?_
    simp (disch := omega) only [go_sem, wrapI64, wrapu64, wrapu32, wrapu8, ltT, ltF, leT, leF, eqF, eqT, nltT, nleT, neqFn]
    refine xlast_s T2 (g := gx2) (s := S2) (fp := fx2) hO2.wf (by omega) y.kk (by simp (disch := omega) only [go_sem, wrapI64, wrapu64, wrapu32, wrapu8, ltT, ltF, leT, leF, eqF, eqT, nltT, nleT, neqFn]) rfl ?_
    simp (disch := omega) only [go_sem, wrapI64, wrapu64, wrapu32, wrapu8, ltT, ltF, leT, leF, eqF, eqT, nltT, nleT, neqFn]
    generalize S2.rd y.kk at' = rv
    generalize S2.rdO y.kk at' = rb
    generalize S2.la y.kk = qv
    generalize S2.laO y.kk = qb
    refine sdraw [.t 0, .t 1, .t 2, .t 3, .t 4, .t 5, .t 6, .t 7, .t 8, .t 10, .r 9, .t 11, .t 12, .t 13, .t 14, .t 15, .t 16, .t 17, .t 18, .t 19, .t 24, .r 20, .r 21, .r 22, .r 23, .t 25, .t 26, .t 27, .t 28, .t 30, .r 29, .t 31, .t 32, .t 33, .t 34, .t 35, .t 36, .t 37] 38 [(NX2, .cells 35 [cu rv.st.v.a, cu rv.st.v.b, cu rv.st.v.c, cu rv.st.v.d, ci rv.st.dc]), (NX2 + 1, .cells 61 [cu rv.st.v.a, cu rv.st.v.b, cu rv.st.v.c, cu rv.st.v.d, ci rv.st.dc]), (NX2 + 1 + 1, .cells 42 qv.x.c), (NX2 + 1 + 1 + 1, .cells 35 [cu qv.st.v.a, cu qv.st.v.b, cu qv.st.v.c, cu qv.st.v.d, ci qv.st.dc]), (NX2 + 1 + 1 + 1 + 1, .cells 71 qv.x.c), (NX2 + 1 + 1 + 1 + 1 + 1, .cells 61 [cu qv.st.v.a, cu qv.st.v.b, cu qv.st.v.c, cu qv.st.v.d, ci qv.st.dc])] rfl (by kernel_rfl) ⟨by simp (disch := omega) only [go_sem, wrapI64, wrapu64, wrapu32, wrapu8, ltT, ltF, leT, leF, eqF, eqT, nltT, nleT, neqFn], by simp (disch := omega) only [go_sem, wrapI64, wrapu64, wrapu32, wrapu8, ltT, ltF, leT, leF, eqF, eqT, nltT, nleT, neqFn], by simp (disch := omega) only [go_sem, wrapI64, wrapu64, wrapu32, wrapu8, ltT, ltF, leT, leF, eqF, eqT, nltT, nleT, neqFn], by simp (disch := omega) only [go_sem, wrapI64, wrapu64, wrapu32, wrapu8, ltT, ltF, leT, leF, eqF, eqT, nltT, nleT, neqFn], by simp (disch := omega) only [go_sem, wrapI64, wrapu64, wrapu32, wrapu8, ltT, ltF, leT, leF, eqF, eqT, nltT, nleT, neqFn], by simp (disch := omega) only [go_sem, wrapI64, wrapu64, wrapu32, wrapu8, ltT, ltF, leT, leF, eqF, eqT, nltT, nleT, neqFn], trivial⟩ ?_
    simp (disch := omega) only [go_sem, wrapI64, wrapu64, wrapu32, wrapu8, ltT, ltF, leT, leF, eqF, eqT, nltT, nleT, neqFn]
    refine rfst_s (x := rv.st) ?_
    simp (disch := omega) only [go_sem, wrapI64, wrapu64, wrapu32, wrapu8, ltT, ltF, leT, leF, eqF, eqT, nltT, nleT, neqFn]
    refine refw_s (ws := [qv.x]) ⟨NX2 + 1 + 1 + 1 + 1 + 1 + 1, 0, 1, rfl, Nat.zero_lt_one, .inl ⟨1, 1, rowsOf 4 qv.x.c, by simp (disch := omega) only [go_sem, wrapI64, wrapu64, wrapu32, wrapu8, ltT, ltF, leT, leF, eqF, eqT, nltT, nleT, neqFn], Nat.le_refl _, fun i hi => by
      have : i = 0 := by simpa using hi
      subst this; rfl⟩⟩ (by show 1 ≤ 1000; omega) (Nat.le_of_ble_eq_true rfl) fun n2 c2 nx2 hn2 => ?_
    have hrw : (wrw [qv.x] 0).map CV.v = qv.x.c := rfl
    simp (disch := omega) only [go_sem, wrapI64, wrapu64, wrapu32, wrapu8, ltT, ltF, leT, leF, eqF, eqT, nltT, nleT, neqFn, hrw, List.length_cons, List.length_nil]
    refine rfst_s (x := qv.st) ?_
    simp (disch := omega) only [go_sem, wrapI64, wrapu64, wrapu32, wrapu8, ltT, ltF, leT, leF, eqF, eqT, nltT, nleT, neqFn]
    refine xopen_c T2 (g := gx2) (s := S2) (fp := fx2) [10] (by simp (disch := omega) only [go_sem, wrapI64, wrapu64, wrapu32, wrapu8, ltT, ltF, leT, leF, eqF, eqT, nltT, nleT, neqFn]) (fun t ht => by rw [List.mem_singleton.1 ht]; rfl) fun lv2 wv2 lb2 wb2 its2 fb2 hL2 hW2 hits2 => ?_
    have hlen2 := bat_len hits2
    have hlW := hW2.lenr (nx2 + ·)
    have hlL := hL2.lenr (nx2 + ·)
    have okW := (hW2.okr (nx2 + ·)).1
    have okL := (hL2.okr (nx2 + ·)).1
    have hrm2 := hO2.room
    have hwI : IntKind.i64.wrap ((S2.room : Int) - its2.length) = (S2.room : Int) - its2.length := wrapI64 (by omega) (by omega)
    simp (disch := omega) only [go_sem, wrapI64, wrapu64, wrapu32, wrapu8, ltT, ltF, leT, leF, eqF, eqT, nltT, nleT, neqFn]
    refine sdraw [.t 0, .t 2, .t 3, .t 4, .t 5, .t 6, .r 1, .t 7, .t 8, .t 9, .t 11, .t 12, .t 13, .t 14, .t 15, .t 16, .t 17, .t 18, .t 19, .t 20, .r 10, .t 21, .t 22, .t 23, .t 24, .t 26, .t 27, .t 28, .t 29, .r 25, .t 30, .t 31, .t 32, .t 33, .t 35, .t 36, .t 37, .t 38, .t 39, .r 34, .t 40, .t 41] 42 [(nx2, rsO S2 (wv2.rn (nx2 + ·)) (lv2.rn (nx2 + ·)))] rfl (by kernel_rfl) ⟨by simp (disch := omega) only [go_sem, wrapI64, wrapu64, wrapu32, wrapu8, ltT, ltF, leT, leF, eqF, eqT, nltT, nleT, neqFn], trivial⟩ ?_
    simp (disch := omega) only [go_sem, wrapI64, wrapu64, wrapu32, wrapu8, ltT, ltF, leT, leF, eqF, eqT, nltT, nleT, neqFn, hlW, okW]
    refine shwait_s 1 (g := g) (s := S2) (fp := fs4) (by simp (disch := omega) only [go_sem, wrapI64, wrapu64, wrapu32, wrapu8, ltT, ltF, leT, leF, eqF, eqT, nltT, nleT, neqFn]) rfl ?_
    simp (disch := omega) only [go_sem, wrapI64, wrapu64, wrapu32, wrapu8, ltT, ltF, leT, leF, eqF, eqT, nltT, nleT, neqFn, hlW, okW, hlen2]
    refine shroom_s 1 (g := g) (s := S2) (fp := fs4) ⟨by omega, by omega⟩ (by simp (disch := omega) only [go_sem, wrapI64, wrapu64, wrapu32, wrapu8, ltT, ltF, leT, leF, eqF, eqT, nltT, nleT, neqFn]) rfl ?_
    rw [hlen2] at hwI hlW
    simp (disch := omega) only [go_sem, wrapI64, wrapu64, wrapu32, wrapu8, ltT, ltF, leT, leF, eqF, eqT, nltT, nleT, neqFn, hlW, okW, hlen2, hwI]
    refine shappl_s 1 (g := g) (s := S2) (fp := fs4) (by simp (disch := omega) only [go_sem, wrapI64, wrapu64, wrapu32, wrapu8, ltT, ltF, leT, leF, eqF, eqT, nltT, nleT, neqFn]) rfl ?_
    simp (disch := omega) only [go_sem, wrapI64, wrapu64, wrapu32, wrapu8, ltT, ltF, leT, leF, eqF, eqT, nltT, nleT, neqFn, hlL, okL]
    refine shvers_s 1 (g := g) (s := S2) (fp := fs4) (by omega) (by simp (disch := omega) only [go_sem, wrapI64, wrapu64, wrapu32, wrapu8, ltT, ltF, leT, leF, eqF, eqT, nltT, nleT, neqFn]) rfl ?_
    simp (disch := omega) only [go_sem, wrapI64, wrapu64, wrapu32, wrapu8, ltT, ltF, leT, leF, eqF, eqT, nltT, nleT, neqFn, hlL, okL]
    refine ⟨⟨i + 1, S2, fs4, nx2, nx2 + 4, lv2, wv2, lb2, wb2, its2, fb2⟩, ⟨⟨by show i + 1 ≤ 50; omega, by show i + 1 ≤ m0; omega⟩, hO2, hL2, hW2, hits2, ⟨by show 2 ≤ nx2; omega, by show nx2 + 3 < nx2 + 4; omega⟩⟩, by show 50 - (i + 1) < 50 - i; omega, ent_drop ⟨rfl, rfl, rfl, rfl, rfl, trivial⟩ ⟨by simp (disch := omega) only [go_sem, wrapI64, wrapu64, wrapu32, wrapu8, ltT, ltF, leT, leF, eqF, eqT, nltT, nleT, neqFn], by simp (disch := omega) only [go_sem, wrapI64, wrapu64, wrapu32, wrapu8, ltT, ltF, leT, leF, eqF, eqT, nltT, nleT, neqFn], by simp (disch := omega) only [go_sem, wrapI64, wrapu64, wrapu32, wrapu8, ltT, ltF, leT, leF, eqF, eqT, nltT, nleT, neqFn], by simp (disch := omega) only [go_sem, wrapI64, wrapu64, wrapu32, wrapu8, ltT, ltF, leT, leF, eqF, eqT, nltT, nleT, neqFn], by simp (disch := omega) only [go_sem, wrapI64, wrapu64, wrapu32, wrapu8, ltT, ltF, leT, leF, eqF, eqT, nltT, nleT, neqFn], by simp (disch := omega) only [go_sem, wrapI64, wrapu64, wrapu32, wrapu8, ltT, ltF, leT, leF, eqF, eqT, nltT, nleT, neqFn], trivial⟩ (by simp; omega)⟩
end Go.Proofs.Ytagjblkfgjcmnaa
