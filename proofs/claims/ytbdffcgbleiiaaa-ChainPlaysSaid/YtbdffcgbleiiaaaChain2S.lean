/-
  A chain of versions: where a stamp stands. Conditions: none.
-/
import Derived.Test.YtbdffcgbleiiaaaChainS
namespace Go.Proofs.Ytbdffcgbleiiaaa.CS
open Go.RowKit Go.Sx
set_option linter.unusedVariables false
set_option linter.unusedSimpArgs false

def Srt (l : List Ver) : Prop := l.Pairwise fun x y => x.st.ord y.st < 0
def pos (l : List Ver) (s : Stp) : Nat := (l.takeWhile fun x => decide (x.st.ord s < 0)).length
def has (l : List Ver) (s : Stp) : Bool := l.any fun x => decide (x.st = s)
theorem pos_le (l : List Ver) (s : Stp) : pos l s ≤ l.length := by
  unfold pos
  exact List.Sublist.length_le (List.takeWhile_sublist _)
theorem pos_of {s : Stp} : ∀ {l : List Ver} {i : Nat}, i ≤ l.length → (∀ p, p < i → ∀ x, l[p]? = some x → x.st.ord s < 0) → (∀ x, l[i]? = some x → 0 ≤ x.st.ord s) → pos l s = i
  | [], i, hi, _, _ => by simp at hi; subst hi; rfl
  | y :: l, 0, _, _, h2 => by
    have := h2 y rfl
    simp [pos, List.takeWhile, show ¬ y.st.ord s < 0 by omega]
  | y :: l, i + 1, hi, h1, h2 => by
    have := h1 0 (by omega) y rfl
    have ih := pos_of (l := l) (i := i) (by simpa using hi) (fun p hp x hx => h1 (p + 1) (by omega) x (by simpa using hx)) (fun x hx => h2 x (by simpa using hx))
    simp only [pos, List.takeWhile, this, decide_true, List.length_cons] at ih ⊢
    rw [ih]
theorem Srt.get {l : List Ver} (h : Srt l) {i j : Nat} (hij : i < j) {x y : Ver} (hx : l[i]? = some x) (hy : l[j]? = some y) : x.st.ord y.st < 0 := by
  obtain ⟨h1, rfl⟩ := List.getElem?_eq_some_iff.1 hx
  obtain ⟨h2, rfl⟩ := List.getElem?_eq_some_iff.1 hy
  exact List.pairwise_iff_getElem.1 h i j h1 h2 hij
theorem has_of {l : List Ver} {s : Stp} (hs : Srt l) {i : Nat} (h1 : ∀ p, p < i → ∀ x, l[p]? = some x → x.st.ord s < 0) (h2 : ∀ p, i ≤ p → ∀ x, l[p]? = some x → 0 ≤ x.st.ord s) : has l s = (match l[i]? with | some x => decide (x.st.ord s = 0) | none => false) := by
  rw [Bool.eq_iff_iff]
  unfold has
  rw [List.any_eq_true]
  constructor
  · rintro ⟨x, hx, he⟩
    have he : x.st = s := by simpa using he
    obtain ⟨p, hp, rfl⟩ := List.getElem_of_mem hx
    have hp' := List.getElem?_eq_getElem hp
    have h0 : (l[p]).st.ord s = 0 := by rw [he]; exact ord_self s
    have hpi : i ≤ p := by
      rcases Nat.lt_or_ge p i with h | h
      · have := h1 p h _ hp'; omega
      · exact h
    rcases Nat.lt_or_ge i p with h | h
    · have hil : i < l.length := by omega
      have hi' := List.getElem?_eq_getElem hil
      have k1 := hs.get h hi' hp'
      rw [he] at k1
      have := h2 i (by omega) _ hi'
      omega
    · have : i = p := by omega
      rw [this, hp']; simpa using h0
  · intro h
    cases hi : l[i]? with
    | none => rw [hi] at h; cases h
    | some x =>
      rw [hi] at h
      exact ⟨x, List.mem_of_getElem? hi, by simpa using ord_eq (by simpa using h)⟩
theorem add1_s {C : Cx} {fr : List (Nat × SV)} {hp : List (Nat × Blk)} {nx : Nat} {d : Option Tmp} {K : St → Prop} {x : Ver} {s : Stp} (h : dOk C.N d ∧ kput K ⟨fr, hp, nx⟩ d (.c (ci (x.st.ord s)))) :
    SCall Try.prog C 56 [.agg [cu x.st.v.a, cu x.st.v.b, cu x.st.v.c, cu x.st.v.d, ci x.st.dc, .v (Value.string x.x)], sst s.v.a s.v.b s.v.c s.v.d s.dc] d K ⟨fr, hp, nx⟩ :=
  scall_pure [x.val, s.val] _ _ Try.call56 (add1_c · x s) rfl (fun _ => rfl) (fun _ => rfl) h
theorem half (a : Nat) : (a : Int).fdiv (2 ^ (min 1 64)) = ((a / 2 : Nat) : Int) := by
  rw [Int.fdiv_eq_ediv_of_nonneg _ (by decide)]
  simp
set_option maxRecDepth 100000 in
theorem bs_c (w : World) (l : List Ver) (s : Stp) (hs : Srt l) (hl : l.length ≤ 1000000) {b0 o0 : Nat} {x0 : CV} {v0 : Value} (i0 : ImmAt w b0 o0 6 l.length (vrow l)) (l0 : LArg 0 l.length x0) (e0 : ∀ ρ : Env, ρ 0 = ⟨b0, o0, 6⟩ → x0.den ρ = v0) :
    Calls Try.prog 55 #[v0, s.val, .func (.func 56) #[] #[]] w fun e w' => e = .returned (.tuple #[.int .i64 (pos l s), .bool (has l s)]) ∧ Below w.heap.size w w' := by
  refine calls_imm [⟨b0, o0, 6, l.length, vrow l⟩] (by simp; exact i0) 49 _ Try.func55 rfl Try.ntmps55 Try.results55 [.c x0, sst s.v.a s.v.b s.v.c s.v.d s.dc, .c (.fn 56 [])] (by simp) (fun ρ h => by simp [SV.denL, SV.den, CV.den, CV.denL, e0 ρ (h 0 (by simp)), Stp.val, Stp.l]) ?_
  have n0 := l0.len
  simp only [immL, List.length_cons, List.length_nil, Nat.zero_add, Nat.reduceAdd]
  simp only [go_sem, ↓reduceIte, Nat.reduceEqDiff, Nat.reduceLT, Nat.reduceLeDiff, Nat.reduceAdd, Nat.reduceMul, Nat.reduceSub, Nat.reduceDiv, Nat.reduceMod, Int.reduceToNat, Int.reduceLT, Int.reduceLE, Int.reduceAdd, Int.reduceSub, Int.reduceMul, Int.reduceEq, Int.reduceNeg, reduceCtorEq, or_false, false_or, decide_true, decide_false, Int.cast_ofNat_Int, Nat.zero_add, Nat.add_zero, Int.toNat_natCast, Option.isNone_none, Option.isNone_some, Bool.not_true, Bool.not_false, Bool.xor_true, Bool.xor_false, Bool.true_xor, Bool.false_xor, decide_true, decide_false, Bool.and_true, Bool.true_and, Bool.and_false, Bool.false_and, eq_self, ne_eq, not_false_eq_true, not_true_eq_false, true_and, and_true, and_self, n0]
  refine sloop (fun p : Nat × Nat => ⟨[(9, .c (.v (.int .i64 (p.1 : Nat)))), (10, .c (.v (.int .i64 (p.2 : Nat)))), (8, .c (.v (.int .i64 l.length))), (4, .c (.p 1 0 0)), (0, .c x0), (2, .c (.fn 56 []))], [(1, .cells 34 [cu s.v.a, cu s.v.b, cu s.v.c, cu s.v.d, ci s.dc]), (0, .imm 6 l.length fun i => (vrow l i).map .v)], 2⟩) (fun p => p.1 ≤ p.2 ∧ p.2 ≤ l.length ∧ (∀ q, q < p.1 → ∀ x, l[q]? = some x → x.st.ord s < 0) ∧ ∀ q, p.2 ≤ q → ∀ x, l[q]? = some x → 0 ≤ x.st.ord s) (fun p => p.2 - p.1) (0, l.length)
    ⟨by simp, by simp, fun q hq => by simp at hq, fun q hq x hx => by
      have := (List.getElem?_eq_some_iff.1 hx).1
      have hq : l.length ≤ q := hq
      omega⟩ (ent_drop ⟨rfl, rfl, rfl, rfl, rfl, rfl, trivial⟩ ⟨rfl, rfl, trivial⟩ (by simp)) (fun p hp => ?_)
  obtain ⟨i, j⟩ := p
  obtain ⟨hij, hj, h1, h2⟩ : i ≤ j ∧ j ≤ l.length ∧ (∀ q, q < i → ∀ x, l[q]? = some x → x.st.ord s < 0) ∧ ∀ q, j ≤ q → ∀ x, l[q]? = some x → 0 ≤ x.st.ord s := hp
  by_cases h : i < j
  · obtain ⟨m, hm⟩ : ∃ m, (i + j) / 2 = m := ⟨_, rfl⟩
    have hm1 : i ≤ m ∧ m < j := by omega
    obtain ⟨x, hx⟩ : ∃ x, l[m]? = some x := ⟨_, List.getElem?_eq_getElem (by omega)⟩
    have hrow := vrow_eq hx
    have hhalf := half (i + j)
    rw [hm] at hhalf
    have hcast : ((i : Int) + j) = ((i + j : Nat) : Int) := by omega
    obtain ⟨cp, rfl⟩ := l0.pos (by omega)
    simp (disch := omega) only [go_sem, ↓reduceIte, Nat.reduceEqDiff, Nat.reduceLT, Nat.reduceLeDiff, Nat.reduceAdd, Nat.reduceMul, Nat.reduceSub, Nat.reduceDiv, Nat.reduceMod, Int.reduceToNat, Int.reduceLT, Int.reduceLE, Int.reduceAdd, Int.reduceSub, Int.reduceMul, Int.reduceEq, Int.reduceNeg, reduceCtorEq, or_false, false_or, decide_true, decide_false, Int.cast_ofNat_Int, Nat.zero_add, Nat.add_zero, Int.toNat_natCast, Option.isNone_none, Option.isNone_some, Bool.not_true, Bool.not_false, Bool.xor_true, Bool.xor_false, Bool.true_xor, Bool.false_xor, decide_true, decide_false, Bool.and_true, Bool.true_and, Bool.and_false, Bool.false_and, eq_self, ne_eq, not_false_eq_true, not_true_eq_false, true_and, and_true, and_self, wrapI64, wrapu64, wrapu32, wrapu8, ltT, ltF, leT, leF, eqF, eqT, nltT, nleT, neqFn, hcast, hhalf]
    refine sdraw0 [.t 0, .t 1, .t 2, .t 3, .t 4, .t 5, .r 6, .t 7] 8 rfl (by kernel_rfl) ?_
    simp (disch := omega) only [go_sem, ↓reduceIte, Nat.reduceEqDiff, Nat.reduceLT, Nat.reduceLeDiff, Nat.reduceAdd, Nat.reduceMul, Nat.reduceSub, Nat.reduceDiv, Nat.reduceMod, Int.reduceToNat, Int.reduceLT, Int.reduceLE, Int.reduceAdd, Int.reduceSub, Int.reduceMul, Int.reduceEq, Int.reduceNeg, reduceCtorEq, or_false, false_or, decide_true, decide_false, Int.cast_ofNat_Int, Nat.zero_add, Nat.add_zero, Int.toNat_natCast, Option.isNone_none, Option.isNone_some, Bool.not_true, Bool.not_false, Bool.xor_true, Bool.xor_false, Bool.true_xor, Bool.false_xor, decide_true, decide_false, Bool.and_true, Bool.true_and, Bool.and_false, Bool.false_and, eq_self, ne_eq, not_false_eq_true, not_true_eq_false, true_and, and_true, and_self, wrapI64, wrapu64, wrapu32, wrapu8, ltT, ltF, leT, leF, eqF, eqT, nltT, nleT, neqFn, hrow]
    refine add1_s (x := x) (s := s) ?_
    cases hc : decide (x.st.ord s < 0)
    · simp (disch := omega) only [go_sem, ↓reduceIte, Nat.reduceEqDiff, Nat.reduceLT, Nat.reduceLeDiff, Nat.reduceAdd, Nat.reduceMul, Nat.reduceSub, Nat.reduceDiv, Nat.reduceMod, Int.reduceToNat, Int.reduceLT, Int.reduceLE, Int.reduceAdd, Int.reduceSub, Int.reduceMul, Int.reduceEq, Int.reduceNeg, reduceCtorEq, or_false, false_or, decide_true, decide_false, Int.cast_ofNat_Int, Nat.zero_add, Nat.add_zero, Int.toNat_natCast, Option.isNone_none, Option.isNone_some, Bool.not_true, Bool.not_false, Bool.xor_true, Bool.xor_false, Bool.true_xor, Bool.false_xor, decide_true, decide_false, Bool.and_true, Bool.true_and, Bool.and_false, Bool.false_and, eq_self, ne_eq, not_false_eq_true, not_true_eq_false, true_and, and_true, and_self, wrapI64, wrapu64, wrapu32, wrapu8, ltT, ltF, leT, leF, eqF, eqT, nltT, nleT, neqFn, hc]
      refine ⟨(i, m), ⟨hm1.1, by omega, h1, fun q hq y hy => ?_⟩, by show m - i < j - i; omega, ent_drop ⟨rfl, rfl, rfl, rfl, rfl, rfl, trivial⟩ ⟨rfl, rfl, trivial⟩ (by simp)⟩
      have hq : m ≤ q := hq
      rcases Nat.lt_or_ge m q with hmq | hmq
      · have k1 := hs.get hmq hx hy
        have k2 : 0 ≤ x.st.ord s := by simpa using hc
        have k3 := ord_neg x.st y.st
        have k4 := ord_neg x.st s
        have k5 := ord_neg y.st s
        by_cases h9 : y.st.ord s < 0
        · have := ord_trans k1 h9; omega
        · omega
      · have : q = m := by omega
        rw [this, hx] at hy; injection hy with hy; rw [← hy]; simpa using hc
    · simp (disch := omega) only [go_sem, ↓reduceIte, Nat.reduceEqDiff, Nat.reduceLT, Nat.reduceLeDiff, Nat.reduceAdd, Nat.reduceMul, Nat.reduceSub, Nat.reduceDiv, Nat.reduceMod, Int.reduceToNat, Int.reduceLT, Int.reduceLE, Int.reduceAdd, Int.reduceSub, Int.reduceMul, Int.reduceEq, Int.reduceNeg, reduceCtorEq, or_false, false_or, decide_true, decide_false, Int.cast_ofNat_Int, Nat.zero_add, Nat.add_zero, Int.toNat_natCast, Option.isNone_none, Option.isNone_some, Bool.not_true, Bool.not_false, Bool.xor_true, Bool.xor_false, Bool.true_xor, Bool.false_xor, decide_true, decide_false, Bool.and_true, Bool.true_and, Bool.and_false, Bool.false_and, eq_self, ne_eq, not_false_eq_true, not_true_eq_false, true_and, and_true, and_self, wrapI64, wrapu64, wrapu32, wrapu8, ltT, ltF, leT, leF, eqF, eqT, nltT, nleT, neqFn, hc]
      refine ⟨(m + 1, j), ⟨by show m + 1 ≤ j; omega, hj, fun q hq y hy => ?_, h2⟩, by show j - (m + 1) < j - i; omega, ent_drop ⟨rfl, rfl, rfl, rfl, rfl, rfl, trivial⟩ ⟨rfl, rfl, trivial⟩ (by simp)⟩
      have hq : q < m + 1 := hq
      have k2 : x.st.ord s < 0 := by simpa using hc
      rcases Nat.lt_or_ge q m with hmq | hmq
      · exact ord_trans (hs.get hmq hy hx) k2
      · have : q = m := by omega
        rw [this, hx] at hy; injection hy with hy; rw [← hy]; exact k2
  · have hij' : i = j := by omega
    subst hij'
    have hpos : pos l s = i := pos_of hj h1 fun x hx => h2 i (Nat.le_refl _) x hx
    have hhas := has_of hs h1 h2
    rw [hpos, hhas]
    simp (disch := omega) only [go_sem, ↓reduceIte, Nat.reduceEqDiff, Nat.reduceLT, Nat.reduceLeDiff, Nat.reduceAdd, Nat.reduceMul, Nat.reduceSub, Nat.reduceDiv, Nat.reduceMod, Int.reduceToNat, Int.reduceLT, Int.reduceLE, Int.reduceAdd, Int.reduceSub, Int.reduceMul, Int.reduceEq, Int.reduceNeg, reduceCtorEq, or_false, false_or, decide_true, decide_false, Int.cast_ofNat_Int, Nat.zero_add, Nat.add_zero, Int.toNat_natCast, Option.isNone_none, Option.isNone_some, Bool.not_true, Bool.not_false, Bool.xor_true, Bool.xor_false, Bool.true_xor, Bool.false_xor, decide_true, decide_false, Bool.and_true, Bool.true_and, Bool.and_false, Bool.false_and, eq_self, ne_eq, not_false_eq_true, not_true_eq_false, true_and, and_true, and_self, wrapI64, wrapu64, wrapu32, wrapu8, ltT, ltF, leT, leF, eqF, eqT, nltT, nleT, neqFn]
    refine sdraw0 [.t 0, .t 1, .t 2, .t 3, .t 4, .t 5, .t 6, .t 7, .t 8, .t 9, .t 10, .r 11, .t 12, .t 13, .t 14, .t 15] 16 rfl (by kernel_rfl) ?_
    by_cases hil : i < l.length
    · obtain ⟨x, hx⟩ : ∃ x, l[i]? = some x := ⟨_, List.getElem?_eq_getElem hil⟩
      have hrow := vrow_eq hx
      obtain ⟨cp, rfl⟩ := l0.pos (by omega)
      rw [hx]
      simp (disch := omega) only [go_sem, ↓reduceIte, Nat.reduceEqDiff, Nat.reduceLT, Nat.reduceLeDiff, Nat.reduceAdd, Nat.reduceMul, Nat.reduceSub, Nat.reduceDiv, Nat.reduceMod, Int.reduceToNat, Int.reduceLT, Int.reduceLE, Int.reduceAdd, Int.reduceSub, Int.reduceMul, Int.reduceEq, Int.reduceNeg, reduceCtorEq, or_false, false_or, decide_true, decide_false, Int.cast_ofNat_Int, Nat.zero_add, Nat.add_zero, Int.toNat_natCast, Option.isNone_none, Option.isNone_some, Bool.not_true, Bool.not_false, Bool.xor_true, Bool.xor_false, Bool.true_xor, Bool.false_xor, decide_true, decide_false, Bool.and_true, Bool.true_and, Bool.and_false, Bool.false_and, eq_self, ne_eq, not_false_eq_true, not_true_eq_false, true_and, and_true, and_self, wrapI64, wrapu64, wrapu32, wrapu8, ltT, ltF, leT, leF, eqF, eqT, nltT, nleT, neqFn, hrow]
      refine add1_s (x := x) (s := s) ?_
      simp (disch := omega) only [go_sem, ↓reduceIte, Nat.reduceEqDiff, Nat.reduceLT, Nat.reduceLeDiff, Nat.reduceAdd, Nat.reduceMul, Nat.reduceSub, Nat.reduceDiv, Nat.reduceMod, Int.reduceToNat, Int.reduceLT, Int.reduceLE, Int.reduceAdd, Int.reduceSub, Int.reduceMul, Int.reduceEq, Int.reduceNeg, reduceCtorEq, or_false, false_or, decide_true, decide_false, Int.cast_ofNat_Int, Nat.zero_add, Nat.add_zero, Int.toNat_natCast, Option.isNone_none, Option.isNone_some, Bool.not_true, Bool.not_false, Bool.xor_true, Bool.xor_false, Bool.true_xor, Bool.false_xor, decide_true, decide_false, Bool.and_true, Bool.true_and, Bool.and_false, Bool.false_and, eq_self, ne_eq, not_false_eq_true, not_true_eq_false, true_and, and_true, and_self, wrapI64, wrapu64, wrapu32, wrapu8, ltT, ltF, leT, leF, eqF, eqT, nltT, nleT, neqFn, hrow]
      exact fun ρ a w hs _ => ⟨rfl, hs.grown⟩
    · have : l[i]? = none := List.getElem?_eq_none (by omega)
      rw [this]
      simp (disch := omega) only [go_sem, ↓reduceIte, Nat.reduceEqDiff, Nat.reduceLT, Nat.reduceLeDiff, Nat.reduceAdd, Nat.reduceMul, Nat.reduceSub, Nat.reduceDiv, Nat.reduceMod, Int.reduceToNat, Int.reduceLT, Int.reduceLE, Int.reduceAdd, Int.reduceSub, Int.reduceMul, Int.reduceEq, Int.reduceNeg, reduceCtorEq, or_false, false_or, decide_true, decide_false, Int.cast_ofNat_Int, Nat.zero_add, Nat.add_zero, Int.toNat_natCast, Option.isNone_none, Option.isNone_some, Bool.not_true, Bool.not_false, Bool.xor_true, Bool.xor_false, Bool.true_xor, Bool.false_xor, decide_true, decide_false, Bool.and_true, Bool.true_and, Bool.and_false, Bool.false_and, eq_self, ne_eq, not_false_eq_true, not_true_eq_false, true_and, and_true, and_self, wrapI64, wrapu64, wrapu32, wrapu8, ltT, ltF, leT, leF, eqF, eqT, nltT, nleT, neqFn]
      exact fun ρ a w hs _ => ⟨rfl, hs.grown⟩
end Go.Proofs.Ytbdffcgbleiiaaa.CS
