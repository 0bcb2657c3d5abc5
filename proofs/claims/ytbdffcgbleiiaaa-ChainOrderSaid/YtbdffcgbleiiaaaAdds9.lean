/-
  Each stamp has one version, the first that was added. Conditions: none.
-/
import Derived.Test.YtbdffcgbleiiaaaChain6I
import Derived.Test.YtbdffcgbleiiaaaEx09
namespace Go.Proofs.Ytbdffcgbleiiaaa.CI
open Go.RowKit Go.Sx
set_option linter.unusedVariables false
set_option linter.unusedSimpArgs false

def srow (ms : List Stp) (j : Nat) : List Value := ((ms[j]?).map Stp.l).getD []
theorem srow_eq {ms : List Stp} {j : Nat} {s : Stp} (h : ms[j]? = some s) : (srow ms j).map CV.v = [cu s.v.a, cu s.v.b, cu s.v.c, cu s.v.d, ci s.dc] := by simp [srow, h, Stp.l]
def isIn (ms : List Stp) (s : Stp) : Bool := ms.any fun y => decide (y = s)
def AInv (L : List Ver) (ms : List Stp) : Prop := Srt L ∧ L.length ≤ ms.length ∧ (∀ v, v ∈ L → ∃ k : Nat, v.x = k ∧ ms[k]? = some v.st) ∧ ∀ s : Stp, s.right = true → has L s = isIn ms s
theorem AInv.nil : AInv [] [] := ⟨Srt.nil, Nat.le_refl _, fun v hv => by simp at hv, fun s _ => rfl⟩
theorem AInv.b {L : List Ver} {ms : List Stp} (h : AInv L ms) (s : Stp) : insB L s = (s.right && !isIn ms s) := by
  unfold insB
  cases hr : s.right
  · simp
  · rw [h.2.2.2 s hr]; simp
theorem AInv.add {L : List Ver} {ms : List Stp} (h : AInv L ms) (s : Stp) : AInv (ins L s (ms.length : Nat)) (ms ++ [s]) := by
  have hb := h.b s
  obtain ⟨h1, h2, h3, h4⟩ := h
  refine ⟨srt_ins h1 _ _, ?_, fun v hv => ?_, fun t ht => ?_⟩
  · cases hi : insB L s
    · unfold ins; rw [if_neg (by rw [hi]; simp)]; simp; omega
    · rw [ins_len hi]; simp; omega
  · rcases mem_ins.1 hv with hv | ⟨_, rfl⟩
    · obtain ⟨k, e1, e2⟩ := h3 v hv
      exact ⟨k, e1, by rw [List.getElem?_append_left (List.getElem?_eq_some_iff.1 e2).1]; exact e2⟩
    · exact ⟨ms.length, rfl, by simp⟩
  · have h5 := h4 t ht
    rw [Bool.eq_iff_iff]
    rw [has_iff]
    have h6 : isIn (ms ++ [s]) t = (isIn ms t || decide (s = t)) := by simp [isIn]
    rw [h6, ← h5, Bool.or_eq_true, has_iff, decide_eq_true_eq]
    constructor
    · rintro ⟨v, hv, rfl⟩
      rcases mem_ins.1 hv with hv | ⟨_, rfl⟩
      · exact .inl ⟨v, hv, rfl⟩
      · exact .inr rfl
    · rintro (⟨v, hv, rfl⟩ | rfl)
      · exact ⟨v, mem_ins.2 (.inl hv), rfl⟩
      · cases hi : insB L s
        · rw [hb, ht, Bool.true_and, Bool.not_eq_false'] at hi
          obtain ⟨v, hv, he⟩ := has_iff.1 ((h4 s ht).trans hi)
          exact ⟨v, mem_ins.2 (.inl hv), he⟩
        · exact ⟨⟨s, (ms.length : Nat)⟩, mem_ins.2 (.inr ⟨hi, rfl⟩), rfl⟩
theorem isIn_s {ms : List Stp} {k : Nat} {y s : Stp} (h : ms[k]? = some y) : isIn (ms.take (k + 1)) s = (isIn (ms.take k) s || decide (y = s)) := by
  unfold isIn; rw [List.take_add_one, h]; simp
theorem ord_s2 {C : Cx} {fr : List (Nat × SV)} {hp : List (Nat × Blk)} {nx : Nat} {d : Option Tmp} {K : St → Prop} {x y : Stp} (h : dOk C.N d ∧ kput K ⟨fr, hp, nx⟩ d (.c (ci (x.ord y)))) : SCall Try.prog C 32 [sst x.v.a x.v.b x.v.c x.v.d x.dc, sst y.v.a y.v.b y.v.c y.v.d y.dc] d K ⟨fr, hp, nx⟩ := ord_s h
abbrev AP := List Ver × List Stp × List Nat × Option Nat
def adF (x0 : CV) (g m0 : Nat) (r0 : Nat → List Value) (p : AP) : St := match p with
  | (L, ms, fp, none) => ⟨[(7, .c (ci ms.length)), (6, .c (.v (.slice none 0 0))), (5, .c (ci L.length)), (4, .c (.v (gptr g))), (3, .c (.v (.bool true))), (0, .c x0)], [(1, .pred fp (On g (CSh L) fp)), (0, .imm 6 m0 fun i => (r0 i).map .v)], 2⟩
  | (L, ms, fp, some c) => ⟨[(7, .c (ci ms.length)), (6, .c (.s 2 0 ms.length c)), (5, .c (ci L.length)), (4, .c (.v (gptr g))), (3, .c (.v (.bool true))), (0, .c x0)], [(2, .rows 34 5 ms.length c fun j => (srow ms j).map .v), (1, .pred fp (On g (CSh L) fp)), (0, .imm 6 m0 fun i => (r0 i).map .v)], 3⟩
theorem ad_ent (n : Nat) {fr : List (Nat × SV)} {hp : List (Nat × Blk)} {nx : Nat} {C : Cx} {m0 c0 c g i many : Nat} {r0 : Nat → List Value} {L : List Ver} {ms : List Stp} {fp : List Nat} {r : Nat → List CV} (hC : C.n0 = 1) (hn : n ≠ 0 ∧ n ≠ 1) (hi : i = ms.length) (hmany : many = L.length)
    (f7 : lk fr 7 = .c (ci i)) (f6 : lk fr 6 = .c (.s n 0 i c)) (f5 : lk fr 5 = .c (ci many)) (f4 : lk fr 4 = .c (.v (gptr g))) (f3 : lk fr 3 = .c (.v (.bool true))) (f0 : lk fr 0 = .c (.s 0 0 m0 c0))
    (hg : hget hp n = some (.rows 34 5 i c r)) (hr : ∀ j, j < i → (srow ms j).map .v = r j) (h1 : hget hp 1 = some (.pred fp (On g (CSh L) fp))) (h0 : hget hp 0 = some (.imm 6 m0 fun i => (r0 i).map .v)) : Ent C ⟨fr, hp, nx⟩ (adF (.s 0 0 m0 c0) g m0 r0 (L, ms, fp, some c)) := by
  subst hi hmany
  refine Ent.trans (ent_rows n hg hr) ?_
  unfold adF
  refine ent_of (fun k => if k = 2 then n else k) ⟨⟨trivial, ?_⟩, ⟨?_, ?_⟩, ⟨trivial, ?_⟩, ⟨trivial, ?_⟩, ⟨trivial, ?_⟩, ⟨?_, ?_⟩, trivial⟩ ⟨⟨?_, ?_, ?_⟩, ⟨?_, trivial, ?_⟩, ⟨?_, ?_, ?_⟩, trivial⟩ ?_ ?_ fun k hk => ?_
  · rw [f7]; rfl
  · show 2 < 3; omega
  · rw [f6]; rfl
  · rw [f5]; rfl
  · rw [f4]; rfl
  · rw [f3]; rfl
  · show 0 < 3; omega
  · rw [f0]; rfl
  · show 2 < 3; omega
  · intro j _; exact blL_v _ _
  · show hget _ n = _
    rw [hget_hset n _ hp _ hg]
    simp [Blk.rn, CV.rnL_eq, Function.comp_def, CV.rn]
  · show 1 < 3; omega
  · show hget _ 1 = _
    rw [hget_hset_ne n 1 _ (by omega), h1]; rfl
  · show 0 < 3; omega
  · intro j _; exact blL_v _ _
  · show hget _ 0 = _
    rw [hget_hset_ne n 0 _ (by omega), h0]
    simp [Blk.rn, CV.rnL_eq, Function.comp_def, CV.rn]
  · simp; omega
  · rw [hC]; omega
  · rw [hC] at hk
    show (if k = 2 then n else k) = k
    rw [if_neg (by omega)]
set_option maxHeartbeats 4000000 in
set_option maxRecDepth 100000 in
theorem chainAdds_c (w : World) {b0 o0 m0 : Nat} {r0 : Nat → List Value} {x0 : CV} {v0 : Value} (i0 : ImmAt w b0 o0 6 m0 r0) (l0 : LArg 0 m0 x0)
    (e0 : ∀ ρ : Env, ρ 0 = ⟨b0, o0, 6⟩ → x0.den ρ = v0) (f0 : ∀ i, i < m0 → FOk [.i .u64, .i .u64, .i .u64, .i .u64, .i .i64, .b] (r0 i)) :
    Calls Try.prog 6 #[v0] w fun e w' => e = .returned (.bool true) ∧ Below w.heap.size w w' := by
  refine calls_imm [⟨b0, o0, 6, m0, r0⟩] (by simp; exact i0) 135 _ Try.func6 rfl Try.ntmps6 Try.results6 [.c x0] (by simp) (fun ρ h => by simp [SV.denL, SV.den, e0 ρ (h 0 (by simp))]) ?_
  have n0 := l0.len
  simp only [immL, List.length_cons, List.length_nil, Nat.zero_add, Nat.reduceAdd]
  simp only [go_sem, ↓reduceIte, Nat.reduceEqDiff, Nat.reduceLT, Nat.reduceLeDiff, Nat.reduceAdd, Nat.reduceMul, Nat.reduceSub, Nat.reduceDiv, Nat.reduceMod, Int.reduceToNat, Int.reduceLT, Int.reduceLE, Int.reduceAdd, Int.reduceSub, Int.reduceMul, Int.reduceEq, Int.reduceNeg, reduceCtorEq, or_false, false_or, decide_true, decide_false, Int.cast_ofNat_Int, Nat.zero_add, Nat.add_zero, Int.toNat_natCast, Option.isNone_none, Option.isNone_some, Bool.not_true, Bool.not_false, Bool.xor_true, Bool.xor_false, Bool.true_xor, Bool.false_xor, decide_true, decide_false, Bool.and_true, Bool.true_and, Bool.and_false, Bool.false_and, eq_self, ne_eq, not_false_eq_true, not_true_eq_false, true_and, and_true, and_self]
  refine scall_pure [] (.c (.v (.bool true))) (.bool true) Try.call11 CS.ex_c rfl (fun _ => rfl) (fun _ => rfl) ?_
  simp only [go_sem, ↓reduceIte, Nat.reduceEqDiff, Nat.reduceLT, Nat.reduceLeDiff, Nat.reduceAdd, Nat.reduceMul, Nat.reduceSub, Nat.reduceDiv, Nat.reduceMod, Int.reduceToNat, Int.reduceLT, Int.reduceLE, Int.reduceAdd, Int.reduceSub, Int.reduceMul, Int.reduceEq, Int.reduceNeg, reduceCtorEq, or_false, false_or, decide_true, decide_false, Int.cast_ofNat_Int, Nat.zero_add, Nat.add_zero, Int.toNat_natCast, Option.isNone_none, Option.isNone_some, Bool.not_true, Bool.not_false, Bool.xor_true, Bool.xor_false, Bool.true_xor, Bool.false_xor, decide_true, decide_false, Bool.and_true, Bool.true_and, Bool.and_false, Bool.false_and, eq_self, ne_eq, not_false_eq_true, not_true_eq_false, true_and, and_true, and_self]
  refine new_s rfl fun g fp0 => ?_
  simp only [go_sem, ↓reduceIte, Nat.reduceEqDiff, Nat.reduceLT, Nat.reduceLeDiff, Nat.reduceAdd, Nat.reduceMul, Nat.reduceSub, Nat.reduceDiv, Nat.reduceMod, Int.reduceToNat, Int.reduceLT, Int.reduceLE, Int.reduceAdd, Int.reduceSub, Int.reduceMul, Int.reduceEq, Int.reduceNeg, reduceCtorEq, or_false, false_or, decide_true, decide_false, Int.cast_ofNat_Int, Nat.zero_add, Nat.add_zero, Int.toNat_natCast, Option.isNone_none, Option.isNone_some, Bool.not_true, Bool.not_false, Bool.xor_true, Bool.xor_false, Bool.true_xor, Bool.false_xor, decide_true, decide_false, Bool.and_true, Bool.true_and, Bool.and_false, Bool.false_and, eq_self, ne_eq, not_false_eq_true, not_true_eq_false, true_and, and_true, and_self]
  refine sloop (adF x0 g m0 r0) (fun p => p.2.1.length ≤ 20 ∧ p.2.1.length ≤ m0 ∧ AInv p.1 p.2.1 ∧ (p.2.2.2 = none → p.2.1 = []) ∧ ∀ c, p.2.2.2 = some c → p.2.1.length ≤ c ∧ 0 < p.2.1.length) (fun p => 20 - p.2.1.length) ([], [], fp0, none)
    ⟨by simp, by simp, AInv.nil, fun _ => rfl, fun c hc => by cases hc⟩ (ent_drop ⟨rfl, rfl, rfl, rfl, rfl, rfl, trivial⟩ ⟨rfl, rfl, trivial⟩ (by simp)) (fun p hp => ?_)
  obtain ⟨L, ms, fp, oc⟩ := p
  obtain ⟨h20, hm0, hA, hn, hc⟩ : ms.length ≤ 20 ∧ ms.length ≤ m0 ∧ AInv L ms ∧ (oc = none → ms = []) ∧ ∀ c, oc = some c → ms.length ≤ c ∧ 0 < ms.length := hp
  have hL20 := hA.2.1
  by_cases hgo : ms.length < m0 ∧ ms.length < 20
  · obtain ⟨h0, h1⟩ := hgo
    obtain ⟨c0, rfl⟩ := l0.pos (by omega)
    obtain ⟨m, own, hnn, hrow⟩ := row_mark (f0 _ h0)
    obtain ⟨s, hs0⟩ : ∃ s, s = mk m own := ⟨_, rfl⟩
    have hcall := fun w => mark_c m own w
    rw [← hs0] at hcall
    rcases oc with _ | c
    · obtain rfl := hn rfl
      unfold adF
      have hrow0 : (r0 0).map CV.v = _ := hrow
      have h00 : 0 < m0 := h0
      simp (disch := omega) only [go_sem, ↓reduceIte, Nat.reduceEqDiff, Nat.reduceLT, Nat.reduceLeDiff, Nat.reduceAdd, Nat.reduceMul, Nat.reduceSub, Nat.reduceDiv, Nat.reduceMod, Int.reduceToNat, Int.reduceLT, Int.reduceLE, Int.reduceAdd, Int.reduceSub, Int.reduceMul, Int.reduceEq, Int.reduceNeg, reduceCtorEq, or_false, false_or, decide_true, decide_false, Int.cast_ofNat_Int, Nat.zero_add, Nat.add_zero, Int.toNat_natCast, Option.isNone_none, Option.isNone_some, Bool.not_true, Bool.not_false, Bool.xor_true, Bool.xor_false, Bool.true_xor, Bool.false_xor, decide_true, decide_false, Bool.and_true, Bool.true_and, Bool.and_false, Bool.false_and, eq_self, ne_eq, not_false_eq_true, not_true_eq_false, true_and, and_true, and_self, wrapI64, wrapu64, wrapu32, wrapu8, ltT, ltF, leT, leF, eqF, eqT, nltT, nleT, neqFn, hrow0, h00]
      refine scall_pure [.agg #[vu m.v.a, vu m.v.b, vu m.v.c, vu m.v.d, .int .i64 m.dc, .bool own]] (sst s.v.a s.v.b s.v.c s.v.d s.dc) s.val Try.call13 hcall rfl (fun _ => rfl) (fun _ => rfl) ?_
      simp (disch := omega) only [go_sem, ↓reduceIte, Nat.reduceEqDiff, Nat.reduceLT, Nat.reduceLeDiff, Nat.reduceAdd, Nat.reduceMul, Nat.reduceSub, Nat.reduceDiv, Nat.reduceMod, Int.reduceToNat, Int.reduceLT, Int.reduceLE, Int.reduceAdd, Int.reduceSub, Int.reduceMul, Int.reduceEq, Int.reduceNeg, reduceCtorEq, or_false, false_or, decide_true, decide_false, Int.cast_ofNat_Int, Nat.zero_add, Nat.add_zero, Int.toNat_natCast, Option.isNone_none, Option.isNone_some, Bool.not_true, Bool.not_false, Bool.xor_true, Bool.xor_false, Bool.true_xor, Bool.false_xor, decide_true, decide_false, Bool.and_true, Bool.true_and, Bool.and_false, Bool.false_and, eq_self, ne_eq, not_false_eq_true, not_true_eq_false, true_and, and_true, and_self, wrapI64, wrapu64, wrapu32, wrapu8, ltT, ltF, leT, leF, eqF, eqT, nltT, nleT, neqFn]
      refine sloop (fun _ : Unit => ⟨[(8, .c (.p 2 0 0)), (9, .c (.v (.bool false))), (10, .c (ci 0)), (7, .c (ci 0)), (6, .c (.v (.slice none 0 0))), (5, .c (ci L.length)), (4, .c (.v (gptr g))), (3, .c (.v (.bool true))), (0, .c (.s 0 0 m0 c0))], [(2, .cells 34 [cu s.v.a, cu s.v.b, cu s.v.c, cu s.v.d, ci s.dc]), (1, .pred fp (On g (CSh L) fp)), (0, .imm 6 m0 fun i => (r0 i).map .v)], 3⟩) (fun _ => True) (fun _ => 0) () trivial (ent_drop ⟨rfl, rfl, rfl, rfl, rfl, rfl, rfl, rfl, rfl, trivial⟩ ⟨rfl, rfl, rfl, trivial⟩ (by simp)) (fun _ _ => ?_)
      simp (disch := omega) only [go_sem, ↓reduceIte, Nat.reduceEqDiff, Nat.reduceLT, Nat.reduceLeDiff, Nat.reduceAdd, Nat.reduceMul, Nat.reduceSub, Nat.reduceDiv, Nat.reduceMod, Int.reduceToNat, Int.reduceLT, Int.reduceLE, Int.reduceAdd, Int.reduceSub, Int.reduceMul, Int.reduceEq, Int.reduceNeg, reduceCtorEq, or_false, false_or, decide_true, decide_false, Int.cast_ofNat_Int, Nat.zero_add, Nat.add_zero, Int.toNat_natCast, Option.isNone_none, Option.isNone_some, Bool.not_true, Bool.not_false, Bool.xor_true, Bool.xor_false, Bool.true_xor, Bool.false_xor, decide_true, decide_false, Bool.and_true, Bool.true_and, Bool.and_false, Bool.false_and, eq_self, ne_eq, not_false_eq_true, not_true_eq_false, true_and, and_true, and_self, wrapI64, wrapu64, wrapu32, wrapu8, ltT, ltF, leT, leF, eqF, eqT, nltT, nleT, neqFn]
      refine sright_s ?_
      have hb := hA.b s
      have hin : isIn [] s = false := rfl
      rw [hin] at hb
      have hl1 : L.length ≤ 100000 := by omega
      cases hr : s.right <;> rw [hr] at hb
      · simp (disch := omega) only [go_sem, ↓reduceIte, Nat.reduceEqDiff, Nat.reduceLT, Nat.reduceLeDiff, Nat.reduceAdd, Nat.reduceMul, Nat.reduceSub, Nat.reduceDiv, Nat.reduceMod, Int.reduceToNat, Int.reduceLT, Int.reduceLE, Int.reduceAdd, Int.reduceSub, Int.reduceMul, Int.reduceEq, Int.reduceNeg, reduceCtorEq, or_false, false_or, decide_true, decide_false, Int.cast_ofNat_Int, Nat.zero_add, Nat.add_zero, Int.toNat_natCast, Option.isNone_none, Option.isNone_some, Bool.not_true, Bool.not_false, Bool.xor_true, Bool.xor_false, Bool.true_xor, Bool.false_xor, decide_true, decide_false, Bool.and_true, Bool.true_and, Bool.and_false, Bool.false_and, eq_self, ne_eq, not_false_eq_true, not_true_eq_false, true_and, and_true, and_self, wrapI64, wrapu64, wrapu32, wrapu8, ltT, ltF, leT, leF, eqF, eqT, nltT, nleT, neqFn]
        refine add_s 1 s (0 : Nat) hA.1 hl1 rfl rfl fun fp1 => ?_
        rw [hb]
        simp (disch := omega) only [go_sem, ↓reduceIte, Nat.reduceEqDiff, Nat.reduceLT, Nat.reduceLeDiff, Nat.reduceAdd, Nat.reduceMul, Nat.reduceSub, Nat.reduceDiv, Nat.reduceMod, Int.reduceToNat, Int.reduceLT, Int.reduceLE, Int.reduceAdd, Int.reduceSub, Int.reduceMul, Int.reduceEq, Int.reduceNeg, reduceCtorEq, or_false, false_or, decide_true, decide_false, Int.cast_ofNat_Int, Nat.zero_add, Nat.add_zero, Int.toNat_natCast, Option.isNone_none, Option.isNone_some, Bool.not_true, Bool.not_false, Bool.xor_true, Bool.xor_false, Bool.true_xor, Bool.false_xor, decide_true, decide_false, Bool.and_true, Bool.true_and, Bool.and_false, Bool.false_and, eq_self, ne_eq, not_false_eq_true, not_true_eq_false, true_and, and_true, and_self, wrapI64, wrapu64, wrapu32, wrapu8, ltT, ltF, leT, leF, eqF, eqT, nltT, nleT, neqFn]
        refine sappend_nil rfl rfl tkind68 tsz34 tby34 tz34 rfl ⟨⟨rfl, by decide, by decide⟩, by decide, by decide, by decide⟩ ⟨by show (69 : Nat) < 135; omega, fun c' hc' => ?_⟩
        simp (disch := omega) only [go_sem, ↓reduceIte, Nat.reduceEqDiff, Nat.reduceLT, Nat.reduceLeDiff, Nat.reduceAdd, Nat.reduceMul, Nat.reduceSub, Nat.reduceDiv, Nat.reduceMod, Int.reduceToNat, Int.reduceLT, Int.reduceLE, Int.reduceAdd, Int.reduceSub, Int.reduceMul, Int.reduceEq, Int.reduceNeg, reduceCtorEq, or_false, false_or, decide_true, decide_false, Int.cast_ofNat_Int, Nat.zero_add, Nat.add_zero, Int.toNat_natCast, Option.isNone_none, Option.isNone_some, Bool.not_true, Bool.not_false, Bool.xor_true, Bool.xor_false, Bool.true_xor, Bool.false_xor, decide_true, decide_false, Bool.and_true, Bool.true_and, Bool.and_false, Bool.false_and, eq_self, ne_eq, not_false_eq_true, not_true_eq_false, true_and, and_true, and_self, wrapI64, wrapu64, wrapu32, wrapu8, ltT, ltF, leT, leF, eqF, eqT, nltT, nleT, neqFn]
        refine ⟨(ins L s (0 : Nat), [s], fp1, some c'), ⟨by simp, h0, hA.add s, (fun h => by cases h), fun c hc => by injection hc with hc; subst hc; exact ⟨hc', by simp⟩⟩, by simp, ad_ent 4 rfl (by omega) rfl (by unfold ins; rw [if_neg (by rw [hb]; simp)]) rfl rfl rfl rfl rfl rfl rfl (fun j hj => by
          have : j = 0 := by simpa using hj
          subst this; rfl) rfl rfl⟩
      · simp (disch := omega) only [go_sem, ↓reduceIte, Nat.reduceEqDiff, Nat.reduceLT, Nat.reduceLeDiff, Nat.reduceAdd, Nat.reduceMul, Nat.reduceSub, Nat.reduceDiv, Nat.reduceMod, Int.reduceToNat, Int.reduceLT, Int.reduceLE, Int.reduceAdd, Int.reduceSub, Int.reduceMul, Int.reduceEq, Int.reduceNeg, reduceCtorEq, or_false, false_or, decide_true, decide_false, Int.cast_ofNat_Int, Nat.zero_add, Nat.add_zero, Int.toNat_natCast, Option.isNone_none, Option.isNone_some, Bool.not_true, Bool.not_false, Bool.xor_true, Bool.xor_false, Bool.true_xor, Bool.false_xor, decide_true, decide_false, Bool.and_true, Bool.true_and, Bool.and_false, Bool.false_and, eq_self, ne_eq, not_false_eq_true, not_true_eq_false, true_and, and_true, and_self, wrapI64, wrapu64, wrapu32, wrapu8, ltT, ltF, leT, leF, eqF, eqT, nltT, nleT, neqFn]
        refine add_s 1 s (0 : Nat) hA.1 hl1 rfl rfl fun fp1 => ?_
        rw [hb]
        simp (disch := omega) only [go_sem, ↓reduceIte, Nat.reduceEqDiff, Nat.reduceLT, Nat.reduceLeDiff, Nat.reduceAdd, Nat.reduceMul, Nat.reduceSub, Nat.reduceDiv, Nat.reduceMod, Int.reduceToNat, Int.reduceLT, Int.reduceLE, Int.reduceAdd, Int.reduceSub, Int.reduceMul, Int.reduceEq, Int.reduceNeg, reduceCtorEq, or_false, false_or, decide_true, decide_false, Int.cast_ofNat_Int, Nat.zero_add, Nat.add_zero, Int.toNat_natCast, Option.isNone_none, Option.isNone_some, Bool.not_true, Bool.not_false, Bool.xor_true, Bool.xor_false, Bool.true_xor, Bool.false_xor, decide_true, decide_false, Bool.and_true, Bool.true_and, Bool.and_false, Bool.false_and, eq_self, ne_eq, not_false_eq_true, not_true_eq_false, true_and, and_true, and_self, wrapI64, wrapu64, wrapu32, wrapu8, ltT, ltF, leT, leF, eqF, eqT, nltT, nleT, neqFn]
        refine sappend_nil rfl rfl tkind68 tsz34 tby34 tz34 rfl ⟨⟨rfl, by decide, by decide⟩, by decide, by decide, by decide⟩ ⟨by show (69 : Nat) < 135; omega, fun c' hc' => ?_⟩
        simp (disch := omega) only [go_sem, ↓reduceIte, Nat.reduceEqDiff, Nat.reduceLT, Nat.reduceLeDiff, Nat.reduceAdd, Nat.reduceMul, Nat.reduceSub, Nat.reduceDiv, Nat.reduceMod, Int.reduceToNat, Int.reduceLT, Int.reduceLE, Int.reduceAdd, Int.reduceSub, Int.reduceMul, Int.reduceEq, Int.reduceNeg, reduceCtorEq, or_false, false_or, decide_true, decide_false, Int.cast_ofNat_Int, Nat.zero_add, Nat.add_zero, Int.toNat_natCast, Option.isNone_none, Option.isNone_some, Bool.not_true, Bool.not_false, Bool.xor_true, Bool.xor_false, Bool.true_xor, Bool.false_xor, decide_true, decide_false, Bool.and_true, Bool.true_and, Bool.and_false, Bool.false_and, eq_self, ne_eq, not_false_eq_true, not_true_eq_false, true_and, and_true, and_self, wrapI64, wrapu64, wrapu32, wrapu8, ltT, ltF, leT, leF, eqF, eqT, nltT, nleT, neqFn]
        refine ⟨(ins L s (0 : Nat), [s], fp1, some c'), ⟨by simp, h0, hA.add s, (fun h => by cases h), fun c hc => by injection hc with hc; subst hc; exact ⟨hc', by simp⟩⟩, by simp, ad_ent 4 rfl (by omega) rfl ((ins_len (by rw [hb]; rfl)).symm) rfl rfl rfl rfl rfl rfl rfl (fun j hj => by
          have : j = 0 := by simpa using hj
          subst this; rfl) rfl rfl⟩
    · unfold adF
      obtain ⟨hc1, hc2⟩ := hc c rfl
      simp (disch := omega) only [go_sem, ↓reduceIte, Nat.reduceEqDiff, Nat.reduceLT, Nat.reduceLeDiff, Nat.reduceAdd, Nat.reduceMul, Nat.reduceSub, Nat.reduceDiv, Nat.reduceMod, Int.reduceToNat, Int.reduceLT, Int.reduceLE, Int.reduceAdd, Int.reduceSub, Int.reduceMul, Int.reduceEq, Int.reduceNeg, reduceCtorEq, or_false, false_or, decide_true, decide_false, Int.cast_ofNat_Int, Nat.zero_add, Nat.add_zero, Int.toNat_natCast, Option.isNone_none, Option.isNone_some, Bool.not_true, Bool.not_false, Bool.xor_true, Bool.xor_false, Bool.true_xor, Bool.false_xor, decide_true, decide_false, Bool.and_true, Bool.true_and, Bool.and_false, Bool.false_and, eq_self, ne_eq, not_false_eq_true, not_true_eq_false, true_and, and_true, and_self, wrapI64, wrapu64, wrapu32, wrapu8, ltT, ltF, leT, leF, eqF, eqT, nltT, nleT, neqFn, hrow, h0]
      refine scall_pure [.agg #[vu m.v.a, vu m.v.b, vu m.v.c, vu m.v.d, .int .i64 m.dc, .bool own]] (sst s.v.a s.v.b s.v.c s.v.d s.dc) s.val Try.call13 hcall rfl (fun _ => rfl) (fun _ => rfl) ?_
      simp (disch := omega) only [go_sem, ↓reduceIte, Nat.reduceEqDiff, Nat.reduceLT, Nat.reduceLeDiff, Nat.reduceAdd, Nat.reduceMul, Nat.reduceSub, Nat.reduceDiv, Nat.reduceMod, Int.reduceToNat, Int.reduceLT, Int.reduceLE, Int.reduceAdd, Int.reduceSub, Int.reduceMul, Int.reduceEq, Int.reduceNeg, reduceCtorEq, or_false, false_or, decide_true, decide_false, Int.cast_ofNat_Int, Nat.zero_add, Nat.add_zero, Int.toNat_natCast, Option.isNone_none, Option.isNone_some, Bool.not_true, Bool.not_false, Bool.xor_true, Bool.xor_false, Bool.true_xor, Bool.false_xor, decide_true, decide_false, Bool.and_true, Bool.true_and, Bool.and_false, Bool.false_and, eq_self, ne_eq, not_false_eq_true, not_true_eq_false, true_and, and_true, and_self, wrapI64, wrapu64, wrapu32, wrapu8, ltT, ltF, leT, leF, eqF, eqT, nltT, nleT, neqFn]
      refine sloop (fun k : Nat => ⟨[(8, .c (.p 3 0 0)), (9, .c (.v (.bool (isIn (ms.take k) s)))), (10, .c (ci k)), (7, .c (ci ms.length)), (6, .c (.s 2 0 ms.length c)), (5, .c (ci L.length)), (4, .c (.v (gptr g))), (3, .c (.v (.bool true))), (0, .c (.s 0 0 m0 c0))], [(3, .cells 34 [cu s.v.a, cu s.v.b, cu s.v.c, cu s.v.d, ci s.dc]), (2, .rows 34 5 ms.length c fun j => (srow ms j).map .v), (1, .pred fp (On g (CSh L) fp)), (0, .imm 6 m0 fun i => (r0 i).map .v)], 4⟩) (fun k => k ≤ ms.length) (fun k => ms.length - k) 0 (Nat.zero_le _) (ent_drop ⟨rfl, rfl, rfl, rfl, rfl, rfl, rfl, rfl, rfl, trivial⟩ ⟨rfl, rfl, rfl, rfl, trivial⟩ (by simp)) (fun k hk => ?_)
      have hk : k ≤ ms.length := hk
      by_cases hkl : k < ms.length
      · obtain ⟨y, hy⟩ : ∃ y, ms[k]? = some y := ⟨_, List.getElem?_eq_getElem hkl⟩
        have hrowk := srow_eq hy
        have hnx := isIn_s (s := s) hy
        have hdec := stp_dec y s
        cases hbk : isIn (ms.take k) s <;> rw [hbk] at hnx
        · simp (disch := omega) only [go_sem, ↓reduceIte, Nat.reduceEqDiff, Nat.reduceLT, Nat.reduceLeDiff, Nat.reduceAdd, Nat.reduceMul, Nat.reduceSub, Nat.reduceDiv, Nat.reduceMod, Int.reduceToNat, Int.reduceLT, Int.reduceLE, Int.reduceAdd, Int.reduceSub, Int.reduceMul, Int.reduceEq, Int.reduceNeg, reduceCtorEq, or_false, false_or, decide_true, decide_false, Int.cast_ofNat_Int, Nat.zero_add, Nat.add_zero, Int.toNat_natCast, Option.isNone_none, Option.isNone_some, Bool.not_true, Bool.not_false, Bool.xor_true, Bool.xor_false, Bool.true_xor, Bool.false_xor, decide_true, decide_false, Bool.and_true, Bool.true_and, Bool.and_false, Bool.false_and, eq_self, ne_eq, not_false_eq_true, not_true_eq_false, true_and, and_true, and_self, wrapI64, wrapu64, wrapu32, wrapu8, ltT, ltF, leT, leF, eqF, eqT, nltT, nleT, neqFn]
          refine sdraw [.t 0, .t 1, .t 2, .t 3, .t 4, .t 5, .t 6, .t 7, .t 8, .t 9] 10 [(2, _), (3, _)] rfl (by kernel_rfl) ⟨rfl, rfl, trivial⟩ ?_
          simp (disch := omega) only [go_sem, ↓reduceIte, Nat.reduceEqDiff, Nat.reduceLT, Nat.reduceLeDiff, Nat.reduceAdd, Nat.reduceMul, Nat.reduceSub, Nat.reduceDiv, Nat.reduceMod, Int.reduceToNat, Int.reduceLT, Int.reduceLE, Int.reduceAdd, Int.reduceSub, Int.reduceMul, Int.reduceEq, Int.reduceNeg, reduceCtorEq, or_false, false_or, decide_true, decide_false, Int.cast_ofNat_Int, Nat.zero_add, Nat.add_zero, Int.toNat_natCast, Option.isNone_none, Option.isNone_some, Bool.not_true, Bool.not_false, Bool.xor_true, Bool.xor_false, Bool.true_xor, Bool.false_xor, decide_true, decide_false, Bool.and_true, Bool.true_and, Bool.and_false, Bool.false_and, eq_self, ne_eq, not_false_eq_true, not_true_eq_false, true_and, and_true, and_self, wrapI64, wrapu64, wrapu32, wrapu8, ltT, ltF, leT, leF, eqF, eqT, nltT, nleT, neqFn, hrowk, hdec]
          refine ⟨k + 1, hkl, by omega, ?_⟩
          rw [hnx]
          exact ent_drop ⟨rfl, rfl, rfl, rfl, rfl, rfl, rfl, rfl, rfl, trivial⟩ ⟨rfl, rfl, rfl, rfl, trivial⟩ (by simp)
        · simp (disch := omega) only [go_sem, ↓reduceIte, Nat.reduceEqDiff, Nat.reduceLT, Nat.reduceLeDiff, Nat.reduceAdd, Nat.reduceMul, Nat.reduceSub, Nat.reduceDiv, Nat.reduceMod, Int.reduceToNat, Int.reduceLT, Int.reduceLE, Int.reduceAdd, Int.reduceSub, Int.reduceMul, Int.reduceEq, Int.reduceNeg, reduceCtorEq, or_false, false_or, decide_true, decide_false, Int.cast_ofNat_Int, Nat.zero_add, Nat.add_zero, Int.toNat_natCast, Option.isNone_none, Option.isNone_some, Bool.not_true, Bool.not_false, Bool.xor_true, Bool.xor_false, Bool.true_xor, Bool.false_xor, decide_true, decide_false, Bool.and_true, Bool.true_and, Bool.and_false, Bool.false_and, eq_self, ne_eq, not_false_eq_true, not_true_eq_false, true_and, and_true, and_self, wrapI64, wrapu64, wrapu32, wrapu8, ltT, ltF, leT, leF, eqF, eqT, nltT, nleT, neqFn]
          refine sdraw [.t 0, .t 1, .t 2, .t 3, .t 4, .t 5, .t 6, .t 7, .t 8, .t 9] 10 [(2, _), (3, _)] rfl (by kernel_rfl) ⟨rfl, rfl, trivial⟩ ?_
          simp (disch := omega) only [go_sem, ↓reduceIte, Nat.reduceEqDiff, Nat.reduceLT, Nat.reduceLeDiff, Nat.reduceAdd, Nat.reduceMul, Nat.reduceSub, Nat.reduceDiv, Nat.reduceMod, Int.reduceToNat, Int.reduceLT, Int.reduceLE, Int.reduceAdd, Int.reduceSub, Int.reduceMul, Int.reduceEq, Int.reduceNeg, reduceCtorEq, or_false, false_or, decide_true, decide_false, Int.cast_ofNat_Int, Nat.zero_add, Nat.add_zero, Int.toNat_natCast, Option.isNone_none, Option.isNone_some, Bool.not_true, Bool.not_false, Bool.xor_true, Bool.xor_false, Bool.true_xor, Bool.false_xor, decide_true, decide_false, Bool.and_true, Bool.true_and, Bool.and_false, Bool.false_and, eq_self, ne_eq, not_false_eq_true, not_true_eq_false, true_and, and_true, and_self, wrapI64, wrapu64, wrapu32, wrapu8, ltT, ltF, leT, leF, eqF, eqT, nltT, nleT, neqFn, hrowk, hdec]
          refine ⟨k + 1, hkl, by omega, ?_⟩
          rw [hnx]
          exact ent_drop ⟨rfl, rfl, rfl, rfl, rfl, rfl, rfl, rfl, rfl, trivial⟩ ⟨rfl, rfl, rfl, rfl, trivial⟩ (by simp)
      · have hkm : k = ms.length := by omega
        subst hkm
        rw [List.take_length]
        have hb := hA.b s
        have hl1 : L.length ≤ 100000 := by omega
        cases hr : s.right <;> cases hin : isIn ms s
        all_goals
          rw [hr, hin] at hb
          simp (disch := omega) only [go_sem, ↓reduceIte, Nat.reduceEqDiff, Nat.reduceLT, Nat.reduceLeDiff, Nat.reduceAdd, Nat.reduceMul, Nat.reduceSub, Nat.reduceDiv, Nat.reduceMod, Int.reduceToNat, Int.reduceLT, Int.reduceLE, Int.reduceAdd, Int.reduceSub, Int.reduceMul, Int.reduceEq, Int.reduceNeg, reduceCtorEq, or_false, false_or, decide_true, decide_false, Int.cast_ofNat_Int, Nat.zero_add, Nat.add_zero, Int.toNat_natCast, Option.isNone_none, Option.isNone_some, Bool.not_true, Bool.not_false, Bool.xor_true, Bool.xor_false, Bool.true_xor, Bool.false_xor, decide_true, decide_false, Bool.and_true, Bool.true_and, Bool.and_false, Bool.false_and, eq_self, ne_eq, not_false_eq_true, not_true_eq_false, true_and, and_true, and_self, wrapI64, wrapu64, wrapu32, wrapu8, ltT, ltF, leT, leF, eqF, eqT, nltT, nleT, neqFn]
          refine sright_s ?_
          simp (disch := omega) only [go_sem, ↓reduceIte, Nat.reduceEqDiff, Nat.reduceLT, Nat.reduceLeDiff, Nat.reduceAdd, Nat.reduceMul, Nat.reduceSub, Nat.reduceDiv, Nat.reduceMod, Int.reduceToNat, Int.reduceLT, Int.reduceLE, Int.reduceAdd, Int.reduceSub, Int.reduceMul, Int.reduceEq, Int.reduceNeg, reduceCtorEq, or_false, false_or, decide_true, decide_false, Int.cast_ofNat_Int, Nat.zero_add, Nat.add_zero, Int.toNat_natCast, Option.isNone_none, Option.isNone_some, Bool.not_true, Bool.not_false, Bool.xor_true, Bool.xor_false, Bool.true_xor, Bool.false_xor, decide_true, decide_false, Bool.and_true, Bool.true_and, Bool.and_false, Bool.false_and, eq_self, ne_eq, not_false_eq_true, not_true_eq_false, true_and, and_true, and_self, wrapI64, wrapu64, wrapu32, wrapu8, ltT, ltF, leT, leF, eqF, eqT, nltT, nleT, neqFn, hr]
          refine add_s 1 s (ms.length : Nat) hA.1 hl1 rfl rfl fun fp1 => ?_
          rw [hb]
          simp (disch := omega) only [go_sem, ↓reduceIte, Nat.reduceEqDiff, Nat.reduceLT, Nat.reduceLeDiff, Nat.reduceAdd, Nat.reduceMul, Nat.reduceSub, Nat.reduceDiv, Nat.reduceMod, Int.reduceToNat, Int.reduceLT, Int.reduceLE, Int.reduceAdd, Int.reduceSub, Int.reduceMul, Int.reduceEq, Int.reduceNeg, reduceCtorEq, or_false, false_or, decide_true, decide_false, Int.cast_ofNat_Int, Nat.zero_add, Nat.add_zero, Int.toNat_natCast, Option.isNone_none, Option.isNone_some, Bool.not_true, Bool.not_false, Bool.xor_true, Bool.xor_false, Bool.true_xor, Bool.false_xor, decide_true, decide_false, Bool.and_true, Bool.true_and, Bool.and_false, Bool.false_and, eq_self, ne_eq, not_false_eq_true, not_true_eq_false, true_and, and_true, and_self, wrapI64, wrapu64, wrapu32, wrapu8, ltT, ltF, leT, leF, eqF, eqT, nltT, nleT, neqFn]
          refine sappend rfl rfl tkind68 tsz34 tby34 tz34 rfl rfl ⟨⟨rfl, by decide, by decide, Nat.le_refl _⟩, by decide, by omega, by omega⟩ (fun q hq => by
            have : q = 0 := by omega
            subst this; rfl) ⟨by show (69 : Nat) < 135; omega, fun c' hc' => ?_⟩
          simp (disch := omega) only [go_sem, ↓reduceIte, Nat.reduceEqDiff, Nat.reduceLT, Nat.reduceLeDiff, Nat.reduceAdd, Nat.reduceMul, Nat.reduceSub, Nat.reduceDiv, Nat.reduceMod, Int.reduceToNat, Int.reduceLT, Int.reduceLE, Int.reduceAdd, Int.reduceSub, Int.reduceMul, Int.reduceEq, Int.reduceNeg, reduceCtorEq, or_false, false_or, decide_true, decide_false, Int.cast_ofNat_Int, Nat.zero_add, Nat.add_zero, Int.toNat_natCast, Option.isNone_none, Option.isNone_some, Bool.not_true, Bool.not_false, Bool.xor_true, Bool.xor_false, Bool.true_xor, Bool.false_xor, decide_true, decide_false, Bool.and_true, Bool.true_and, Bool.and_false, Bool.false_and, eq_self, ne_eq, not_false_eq_true, not_true_eq_false, true_and, and_true, and_self, wrapI64, wrapu64, wrapu32, wrapu8, ltT, ltF, leT, leF, eqF, eqT, nltT, nleT, neqFn]
          refine ⟨(ins L s (ms.length : Nat), ms ++ [s], fp1, some c'), ⟨by simp; omega, by simp; omega, hA.add s, (fun h => by cases h), fun c hc => by injection hc with hc; subst hc; exact ⟨by simpa using hc', by simp⟩⟩, by simp; omega, ad_ent 5 rfl (by omega) (by simp) (by first | exact (ins_len (by rw [hb]; rfl)).symm | (unfold ins; rw [if_neg (by rw [hb]; simp)])) rfl rfl rfl rfl rfl rfl rfl (fun j hj => ?_) rfl rfl⟩
          have hj : j < ms.length + 1 := hj
          unfold rapp
          by_cases h2 : j < ms.length
          · rw [if_pos h2]; unfold srow; rw [List.getElem?_append_left h2]
          · have h3 : j = ms.length := by omega
            rw [if_neg h2, h3, Nat.sub_self]; unfold srow; simp [rowsOf, Stp.l]
  · rcases oc with _ | c
    · obtain rfl := hn rfl
      have hL0 : L = [] := by
        cases L with
        | nil => rfl
        | cons => simp at hL20
      subst hL0
      have hm00 : m0 = 0 := by simp at hgo; omega
      subst hm00
      unfold adF
      simp (disch := omega) only [go_sem, ↓reduceIte, Nat.reduceEqDiff, Nat.reduceLT, Nat.reduceLeDiff, Nat.reduceAdd, Nat.reduceMul, Nat.reduceSub, Nat.reduceDiv, Nat.reduceMod, Int.reduceToNat, Int.reduceLT, Int.reduceLE, Int.reduceAdd, Int.reduceSub, Int.reduceMul, Int.reduceEq, Int.reduceNeg, reduceCtorEq, or_false, false_or, decide_true, decide_false, Int.cast_ofNat_Int, Nat.zero_add, Nat.add_zero, Int.toNat_natCast, Option.isNone_none, Option.isNone_some, Bool.not_true, Bool.not_false, Bool.xor_true, Bool.xor_false, Bool.true_xor, Bool.false_xor, decide_true, decide_false, Bool.and_true, Bool.true_and, Bool.and_false, Bool.false_and, eq_self, ne_eq, not_false_eq_true, not_true_eq_false, true_and, and_true, and_self, wrapI64, wrapu64, wrapu32, wrapu8, ltT, ltF, leT, leF, eqF, eqT, nltT, nleT, neqFn, n0]
      refine all_s 1 (l := []) (by decide) rfl rfl (fun _ => ?_) fun c1 hc1 => ?_
      · simp (disch := omega) only [go_sem, ↓reduceIte, Nat.reduceEqDiff, Nat.reduceLT, Nat.reduceLeDiff, Nat.reduceAdd, Nat.reduceMul, Nat.reduceSub, Nat.reduceDiv, Nat.reduceMod, Int.reduceToNat, Int.reduceLT, Int.reduceLE, Int.reduceAdd, Int.reduceSub, Int.reduceMul, Int.reduceEq, Int.reduceNeg, reduceCtorEq, or_false, false_or, decide_true, decide_false, Int.cast_ofNat_Int, Nat.zero_add, Nat.add_zero, Int.toNat_natCast, Option.isNone_none, Option.isNone_some, Bool.not_true, Bool.not_false, Bool.xor_true, Bool.xor_false, Bool.true_xor, Bool.false_xor, decide_true, decide_false, Bool.and_true, Bool.true_and, Bool.and_false, Bool.false_and, eq_self, ne_eq, not_false_eq_true, not_true_eq_false, true_and, and_true, and_self, wrapI64, wrapu64, wrapu32, wrapu8, ltT, ltF, leT, leF, eqF, eqT, nltT, nleT, neqFn]
        refine sloop (fun _ : Unit => ⟨[(12, .c (.v (.slice none 0 0))), (13, .c (ci 0)), (5, .c (ci 0)), (4, .c (.v (gptr g))), (3, .c (.v (.bool true)))], [(1, .pred fp (On g (CSh []) fp))], 2⟩) (fun _ => True) (fun _ => 0) () trivial (ent_drop ⟨rfl, rfl, rfl, rfl, rfl, trivial⟩ ⟨rfl, trivial⟩ (by simp)) (fun _ _ => ?_)
        simp (disch := omega) only [go_sem, ↓reduceIte, Nat.reduceEqDiff, Nat.reduceLT, Nat.reduceLeDiff, Nat.reduceAdd, Nat.reduceMul, Nat.reduceSub, Nat.reduceDiv, Nat.reduceMod, Int.reduceToNat, Int.reduceLT, Int.reduceLE, Int.reduceAdd, Int.reduceSub, Int.reduceMul, Int.reduceEq, Int.reduceNeg, reduceCtorEq, or_false, false_or, decide_true, decide_false, Int.cast_ofNat_Int, Nat.zero_add, Nat.add_zero, Int.toNat_natCast, Option.isNone_none, Option.isNone_some, Bool.not_true, Bool.not_false, Bool.xor_true, Bool.xor_false, Bool.true_xor, Bool.false_xor, decide_true, decide_false, Bool.and_true, Bool.true_and, Bool.and_false, Bool.false_and, eq_self, ne_eq, not_false_eq_true, not_true_eq_false, true_and, and_true, and_self, wrapI64, wrapu64, wrapu32, wrapu8, ltT, ltF, leT, leF, eqF, eqT, nltT, nleT, neqFn]
        refine len_s 1 (l := []) rfl rfl ?_
        simp (disch := omega) only [go_sem, ↓reduceIte, Nat.reduceEqDiff, Nat.reduceLT, Nat.reduceLeDiff, Nat.reduceAdd, Nat.reduceMul, Nat.reduceSub, Nat.reduceDiv, Nat.reduceMod, Int.reduceToNat, Int.reduceLT, Int.reduceLE, Int.reduceAdd, Int.reduceSub, Int.reduceMul, Int.reduceEq, Int.reduceNeg, reduceCtorEq, or_false, false_or, decide_true, decide_false, Int.cast_ofNat_Int, Nat.zero_add, Nat.add_zero, Int.toNat_natCast, Option.isNone_none, Option.isNone_some, Bool.not_true, Bool.not_false, Bool.xor_true, Bool.xor_false, Bool.true_xor, Bool.false_xor, decide_true, decide_false, Bool.and_true, Bool.true_and, Bool.and_false, Bool.false_and, eq_self, ne_eq, not_false_eq_true, not_true_eq_false, true_and, and_true, and_self, wrapI64, wrapu64, wrapu32, wrapu8, ltT, ltF, leT, leF, eqF, eqT, nltT, nleT, neqFn]
        exact fun ρ a w hs _ => ⟨rfl, hs.grown⟩
      · simp (disch := omega) only [go_sem, ↓reduceIte, Nat.reduceEqDiff, Nat.reduceLT, Nat.reduceLeDiff, Nat.reduceAdd, Nat.reduceMul, Nat.reduceSub, Nat.reduceDiv, Nat.reduceMod, Int.reduceToNat, Int.reduceLT, Int.reduceLE, Int.reduceAdd, Int.reduceSub, Int.reduceMul, Int.reduceEq, Int.reduceNeg, reduceCtorEq, or_false, false_or, decide_true, decide_false, Int.cast_ofNat_Int, Nat.zero_add, Nat.add_zero, Int.toNat_natCast, Option.isNone_none, Option.isNone_some, Bool.not_true, Bool.not_false, Bool.xor_true, Bool.xor_false, Bool.true_xor, Bool.false_xor, decide_true, decide_false, Bool.and_true, Bool.true_and, Bool.and_false, Bool.false_and, eq_self, ne_eq, not_false_eq_true, not_true_eq_false, true_and, and_true, and_self, wrapI64, wrapu64, wrapu32, wrapu8, ltT, ltF, leT, leF, eqF, eqT, nltT, nleT, neqFn]
        refine sloop (fun _ : Unit => ⟨[(12, .c (.s 2 0 0 c1)), (13, .c (ci 0)), (5, .c (ci 0)), (4, .c (.v (gptr g))), (3, .c (.v (.bool true)))], [(1, .pred fp (On g (CSh []) fp))], 3⟩) (fun _ => True) (fun _ => 0) () trivial (ent_drop ⟨rfl, rfl, rfl, rfl, rfl, trivial⟩ ⟨rfl, trivial⟩ (by simp)) (fun _ _ => ?_)
        simp (disch := omega) only [go_sem, ↓reduceIte, Nat.reduceEqDiff, Nat.reduceLT, Nat.reduceLeDiff, Nat.reduceAdd, Nat.reduceMul, Nat.reduceSub, Nat.reduceDiv, Nat.reduceMod, Int.reduceToNat, Int.reduceLT, Int.reduceLE, Int.reduceAdd, Int.reduceSub, Int.reduceMul, Int.reduceEq, Int.reduceNeg, reduceCtorEq, or_false, false_or, decide_true, decide_false, Int.cast_ofNat_Int, Nat.zero_add, Nat.add_zero, Int.toNat_natCast, Option.isNone_none, Option.isNone_some, Bool.not_true, Bool.not_false, Bool.xor_true, Bool.xor_false, Bool.true_xor, Bool.false_xor, decide_true, decide_false, Bool.and_true, Bool.true_and, Bool.and_false, Bool.false_and, eq_self, ne_eq, not_false_eq_true, not_true_eq_false, true_and, and_true, and_self, wrapI64, wrapu64, wrapu32, wrapu8, ltT, ltF, leT, leF, eqF, eqT, nltT, nleT, neqFn]
        refine len_s 1 (l := []) rfl rfl ?_
        simp (disch := omega) only [go_sem, ↓reduceIte, Nat.reduceEqDiff, Nat.reduceLT, Nat.reduceLeDiff, Nat.reduceAdd, Nat.reduceMul, Nat.reduceSub, Nat.reduceDiv, Nat.reduceMod, Int.reduceToNat, Int.reduceLT, Int.reduceLE, Int.reduceAdd, Int.reduceSub, Int.reduceMul, Int.reduceEq, Int.reduceNeg, reduceCtorEq, or_false, false_or, decide_true, decide_false, Int.cast_ofNat_Int, Nat.zero_add, Nat.add_zero, Int.toNat_natCast, Option.isNone_none, Option.isNone_some, Bool.not_true, Bool.not_false, Bool.xor_true, Bool.xor_false, Bool.true_xor, Bool.false_xor, decide_true, decide_false, Bool.and_true, Bool.true_and, Bool.and_false, Bool.false_and, eq_self, ne_eq, not_false_eq_true, not_true_eq_false, true_and, and_true, and_self, wrapI64, wrapu64, wrapu32, wrapu8, ltT, ltF, leT, leF, eqF, eqT, nltT, nleT, neqFn]
        exact fun ρ a w hs _ => ⟨rfl, hs.grown⟩
    · obtain ⟨hc1, hc2⟩ := hc c rfl
      have hl1 : L.length ≤ 100000 := by omega
      have hLm : L.length ≤ ms.length := hL20
      by_cases hx : ms.length < m0
      all_goals
        unfold adF
        simp (disch := omega) only [go_sem, ↓reduceIte, Nat.reduceEqDiff, Nat.reduceLT, Nat.reduceLeDiff, Nat.reduceAdd, Nat.reduceMul, Nat.reduceSub, Nat.reduceDiv, Nat.reduceMod, Int.reduceToNat, Int.reduceLT, Int.reduceLE, Int.reduceAdd, Int.reduceSub, Int.reduceMul, Int.reduceEq, Int.reduceNeg, reduceCtorEq, or_false, false_or, decide_true, decide_false, Int.cast_ofNat_Int, Nat.zero_add, Nat.add_zero, Int.toNat_natCast, Option.isNone_none, Option.isNone_some, Bool.not_true, Bool.not_false, Bool.xor_true, Bool.xor_false, Bool.true_xor, Bool.false_xor, decide_true, decide_false, Bool.and_true, Bool.true_and, Bool.and_false, Bool.false_and, eq_self, ne_eq, not_false_eq_true, not_true_eq_false, true_and, and_true, and_self, wrapI64, wrapu64, wrapu32, wrapu8, ltT, ltF, leT, leF, eqF, eqT, nltT, nleT, neqFn, n0]
        refine all_s 1 (l := L) (by omega) rfl rfl (fun hl0 => ?_) fun c1 hc1 => ?_
        · simp (disch := omega) only [go_sem, ↓reduceIte, Nat.reduceEqDiff, Nat.reduceLT, Nat.reduceLeDiff, Nat.reduceAdd, Nat.reduceMul, Nat.reduceSub, Nat.reduceDiv, Nat.reduceMod, Int.reduceToNat, Int.reduceLT, Int.reduceLE, Int.reduceAdd, Int.reduceSub, Int.reduceMul, Int.reduceEq, Int.reduceNeg, reduceCtorEq, or_false, false_or, decide_true, decide_false, Int.cast_ofNat_Int, Nat.zero_add, Nat.add_zero, Int.toNat_natCast, Option.isNone_none, Option.isNone_some, Bool.not_true, Bool.not_false, Bool.xor_true, Bool.xor_false, Bool.true_xor, Bool.false_xor, decide_true, decide_false, Bool.and_true, Bool.true_and, Bool.and_false, Bool.false_and, eq_self, ne_eq, not_false_eq_true, not_true_eq_false, true_and, and_true, and_self, wrapI64, wrapu64, wrapu32, wrapu8, ltT, ltF, leT, leF, eqF, eqT, nltT, nleT, neqFn]
          refine sloop (fun _ : Unit => ⟨[(12, .c (.v (.slice none 0 0))), (13, .c (ci 0)), (5, .c (ci L.length)), (4, .c (.v (gptr g))), (3, .c (.v (.bool true)))], [(1, .pred fp (On g (CSh L) fp))], 3⟩) (fun _ => True) (fun _ => 0) () trivial (ent_drop ⟨rfl, rfl, rfl, rfl, rfl, trivial⟩ ⟨rfl, trivial⟩ (by simp)) (fun _ _ => ?_)
          simp (disch := omega) only [go_sem, ↓reduceIte, Nat.reduceEqDiff, Nat.reduceLT, Nat.reduceLeDiff, Nat.reduceAdd, Nat.reduceMul, Nat.reduceSub, Nat.reduceDiv, Nat.reduceMod, Int.reduceToNat, Int.reduceLT, Int.reduceLE, Int.reduceAdd, Int.reduceSub, Int.reduceMul, Int.reduceEq, Int.reduceNeg, reduceCtorEq, or_false, false_or, decide_true, decide_false, Int.cast_ofNat_Int, Nat.zero_add, Nat.add_zero, Int.toNat_natCast, Option.isNone_none, Option.isNone_some, Bool.not_true, Bool.not_false, Bool.xor_true, Bool.xor_false, Bool.true_xor, Bool.false_xor, decide_true, decide_false, Bool.and_true, Bool.true_and, Bool.and_false, Bool.false_and, eq_self, ne_eq, not_false_eq_true, not_true_eq_false, true_and, and_true, and_self, wrapI64, wrapu64, wrapu32, wrapu8, ltT, ltF, leT, leF, eqF, eqT, nltT, nleT, neqFn]
          refine len_s 1 (l := L) rfl rfl ?_
          simp (disch := omega) only [go_sem, ↓reduceIte, Nat.reduceEqDiff, Nat.reduceLT, Nat.reduceLeDiff, Nat.reduceAdd, Nat.reduceMul, Nat.reduceSub, Nat.reduceDiv, Nat.reduceMod, Int.reduceToNat, Int.reduceLT, Int.reduceLE, Int.reduceAdd, Int.reduceSub, Int.reduceMul, Int.reduceEq, Int.reduceNeg, reduceCtorEq, or_false, false_or, decide_true, decide_false, Int.cast_ofNat_Int, Nat.zero_add, Nat.add_zero, Int.toNat_natCast, Option.isNone_none, Option.isNone_some, Bool.not_true, Bool.not_false, Bool.xor_true, Bool.xor_false, Bool.true_xor, Bool.false_xor, decide_true, decide_false, Bool.and_true, Bool.true_and, Bool.and_false, Bool.false_and, eq_self, ne_eq, not_false_eq_true, not_true_eq_false, true_and, and_true, and_self, wrapI64, wrapu64, wrapu32, wrapu8, ltT, ltF, leT, leF, eqF, eqT, nltT, nleT, neqFn]
          exact fun ρ a w hs _ => ⟨rfl, hs.grown⟩
        · simp (disch := omega) only [go_sem, ↓reduceIte, Nat.reduceEqDiff, Nat.reduceLT, Nat.reduceLeDiff, Nat.reduceAdd, Nat.reduceMul, Nat.reduceSub, Nat.reduceDiv, Nat.reduceMod, Int.reduceToNat, Int.reduceLT, Int.reduceLE, Int.reduceAdd, Int.reduceSub, Int.reduceMul, Int.reduceEq, Int.reduceNeg, reduceCtorEq, or_false, false_or, decide_true, decide_false, Int.cast_ofNat_Int, Nat.zero_add, Nat.add_zero, Int.toNat_natCast, Option.isNone_none, Option.isNone_some, Bool.not_true, Bool.not_false, Bool.xor_true, Bool.xor_false, Bool.true_xor, Bool.false_xor, decide_true, decide_false, Bool.and_true, Bool.true_and, Bool.and_false, Bool.false_and, eq_self, ne_eq, not_false_eq_true, not_true_eq_false, true_and, and_true, and_self, wrapI64, wrapu64, wrapu32, wrapu8, ltT, ltF, leT, leF, eqF, eqT, nltT, nleT, neqFn]
          refine sloop (fun k : Nat => ⟨[(12, .c (.s 3 0 L.length c1)), (13, .c (ci k)), (6, .c (.s 2 0 ms.length c)), (5, .c (ci L.length)), (4, .c (.v (gptr g))), (3, .c (.v (.bool true)))], [(3, .rows 72 6 L.length c1 fun j => (vrow L j).map .v), (2, .rows 34 5 ms.length c fun j => (srow ms j).map .v), (1, .pred fp (On g (CSh L) fp))], 4⟩) (fun k => k ≤ L.length) (fun k => L.length - k) 0 (Nat.zero_le _) (ent_drop ⟨rfl, rfl, rfl, rfl, rfl, rfl, trivial⟩ ⟨rfl, rfl, rfl, trivial⟩ (by simp)) (fun k hk => ?_)
          have hk : k ≤ L.length := hk
          by_cases hkl : k < L.length
          · obtain ⟨v, hv⟩ : ∃ v, L[k]? = some v := ⟨_, List.getElem?_eq_getElem hkl⟩
            obtain ⟨q, hq1, hq2⟩ := hA.2.2.1 v (List.mem_of_getElem? hv)
            have hql := (List.getElem?_eq_some_iff.1 hq2).1
            have hrowk := vrow_eq hv
            have hrowq := srow_eq hq2
            rw [hq1] at hrowk
            rcases Nat.eq_zero_or_pos k with hk0 | hk0
            · subst hk0
              simp (disch := omega) only [go_sem, ↓reduceIte, Nat.reduceEqDiff, Nat.reduceLT, Nat.reduceLeDiff, Nat.reduceAdd, Nat.reduceMul, Nat.reduceSub, Nat.reduceDiv, Nat.reduceMod, Int.reduceToNat, Int.reduceLT, Int.reduceLE, Int.reduceAdd, Int.reduceSub, Int.reduceMul, Int.reduceEq, Int.reduceNeg, reduceCtorEq, or_false, false_or, decide_true, decide_false, Int.cast_ofNat_Int, Nat.zero_add, Nat.add_zero, Int.toNat_natCast, Option.isNone_none, Option.isNone_some, Bool.not_true, Bool.not_false, Bool.xor_true, Bool.xor_false, Bool.true_xor, Bool.false_xor, decide_true, decide_false, Bool.and_true, Bool.true_and, Bool.and_false, Bool.false_and, eq_self, ne_eq, not_false_eq_true, not_true_eq_false, true_and, and_true, and_self, wrapI64, wrapu64, wrapu32, wrapu8, ltT, ltF, leT, leF, eqF, eqT, nltT, nleT, neqFn, hrowk]
              refine sdraw [.t 0, .t 1, .t 2, .t 3, .t 4, .t 5, .t 6, .t 7, .t 8, .t 9, .t 10, .t 11, .t 12, .t 13, .t 14, .t 15, .t 16, .t 17, .t 18, .t 19, .t 20, .t 21, .t 22, .t 23, .t 24, .t 25, .t 26, .t 27, .t 28, .t 29, .t 30, .t 31, .t 32, .t 33, .t 34, .r 35, .t 36, .t 37, .t 38] 39 [(2, _), (3, _)] rfl (by kernel_rfl) ⟨rfl, rfl, trivial⟩ ?_
              simp (disch := omega) only [go_sem, ↓reduceIte, Nat.reduceEqDiff, Nat.reduceLT, Nat.reduceLeDiff, Nat.reduceAdd, Nat.reduceMul, Nat.reduceSub, Nat.reduceDiv, Nat.reduceMod, Int.reduceToNat, Int.reduceLT, Int.reduceLE, Int.reduceAdd, Int.reduceSub, Int.reduceMul, Int.reduceEq, Int.reduceNeg, reduceCtorEq, or_false, false_or, decide_true, decide_false, Int.cast_ofNat_Int, Nat.zero_add, Nat.add_zero, Int.toNat_natCast, Option.isNone_none, Option.isNone_some, Bool.not_true, Bool.not_false, Bool.xor_true, Bool.xor_false, Bool.true_xor, Bool.false_xor, decide_true, decide_false, Bool.and_true, Bool.true_and, Bool.and_false, Bool.false_and, eq_self, ne_eq, not_false_eq_true, not_true_eq_false, true_and, and_true, and_self, wrapI64, wrapu64, wrapu32, wrapu8, ltT, ltF, leT, leF, eqF, eqT, nltT, nleT, neqFn, hrowk, hrowq]
              exact ⟨1, by omega, by omega, ent_drop ⟨rfl, rfl, rfl, rfl, rfl, rfl, trivial⟩ ⟨rfl, rfl, rfl, trivial⟩ (by simp)⟩
            · obtain ⟨j, hj1, hj2⟩ : ∃ j : Nat, (k : Int) - 1 = j ∧ j < k := ⟨k - 1, by omega, by omega⟩
              obtain ⟨u, hu⟩ : ∃ u, L[j]? = some u := ⟨_, List.getElem?_eq_getElem (by omega)⟩
              have hrowu := vrow_eq hu
              have hlt := hA.1.get hj2 hu hv
              simp (disch := omega) only [go_sem, ↓reduceIte, Nat.reduceEqDiff, Nat.reduceLT, Nat.reduceLeDiff, Nat.reduceAdd, Nat.reduceMul, Nat.reduceSub, Nat.reduceDiv, Nat.reduceMod, Int.reduceToNat, Int.reduceLT, Int.reduceLE, Int.reduceAdd, Int.reduceSub, Int.reduceMul, Int.reduceEq, Int.reduceNeg, reduceCtorEq, or_false, false_or, decide_true, decide_false, Int.cast_ofNat_Int, Nat.zero_add, Nat.add_zero, Int.toNat_natCast, Option.isNone_none, Option.isNone_some, Bool.not_true, Bool.not_false, Bool.xor_true, Bool.xor_false, Bool.true_xor, Bool.false_xor, decide_true, decide_false, Bool.and_true, Bool.true_and, Bool.and_false, Bool.false_and, eq_self, ne_eq, not_false_eq_true, not_true_eq_false, true_and, and_true, and_self, wrapI64, wrapu64, wrapu32, wrapu8, ltT, ltF, leT, leF, eqF, eqT, nltT, nleT, neqFn, hrowk]
              refine sdraw [.t 0, .t 1, .t 2, .t 3, .t 4, .t 5, .t 6, .t 7, .t 8, .t 9, .t 10, .t 11, .t 12, .t 13, .t 14, .t 15, .t 16, .t 17, .t 18, .t 19, .t 20, .t 21, .t 22, .t 23, .t 24, .t 25, .t 26, .t 27, .t 28, .t 29, .t 30, .t 31, .t 32, .t 33, .t 34, .r 35, .t 36, .t 37, .t 38] 39 [(2, _), (3, _)] rfl (by kernel_rfl) ⟨rfl, rfl, trivial⟩ ?_
              simp (disch := omega) only [go_sem, ↓reduceIte, Nat.reduceEqDiff, Nat.reduceLT, Nat.reduceLeDiff, Nat.reduceAdd, Nat.reduceMul, Nat.reduceSub, Nat.reduceDiv, Nat.reduceMod, Int.reduceToNat, Int.reduceLT, Int.reduceLE, Int.reduceAdd, Int.reduceSub, Int.reduceMul, Int.reduceEq, Int.reduceNeg, reduceCtorEq, or_false, false_or, decide_true, decide_false, Int.cast_ofNat_Int, Nat.zero_add, Nat.add_zero, Int.toNat_natCast, Option.isNone_none, Option.isNone_some, Bool.not_true, Bool.not_false, Bool.xor_true, Bool.xor_false, Bool.true_xor, Bool.false_xor, decide_true, decide_false, Bool.and_true, Bool.true_and, Bool.and_false, Bool.false_and, eq_self, ne_eq, not_false_eq_true, not_true_eq_false, true_and, and_true, and_self, wrapI64, wrapu64, wrapu32, wrapu8, ltT, ltF, leT, leF, eqF, eqT, nltT, nleT, neqFn, hrowk, hrowq, hrowu, hj1]
              refine ord_s2 (x := u.st) (y := v.st) ?_
              simp (disch := omega) only [go_sem, ↓reduceIte, Nat.reduceEqDiff, Nat.reduceLT, Nat.reduceLeDiff, Nat.reduceAdd, Nat.reduceMul, Nat.reduceSub, Nat.reduceDiv, Nat.reduceMod, Int.reduceToNat, Int.reduceLT, Int.reduceLE, Int.reduceAdd, Int.reduceSub, Int.reduceMul, Int.reduceEq, Int.reduceNeg, reduceCtorEq, or_false, false_or, decide_true, decide_false, Int.cast_ofNat_Int, Nat.zero_add, Nat.add_zero, Int.toNat_natCast, Option.isNone_none, Option.isNone_some, Bool.not_true, Bool.not_false, Bool.xor_true, Bool.xor_false, Bool.true_xor, Bool.false_xor, decide_true, decide_false, Bool.and_true, Bool.true_and, Bool.and_false, Bool.false_and, eq_self, ne_eq, not_false_eq_true, not_true_eq_false, true_and, and_true, and_self, wrapI64, wrapu64, wrapu32, wrapu8, ltT, ltF, leT, leF, eqF, eqT, nltT, nleT, neqFn]
              exact ⟨k + 1, hkl, by omega, ent_drop ⟨rfl, rfl, rfl, rfl, rfl, rfl, trivial⟩ ⟨rfl, rfl, rfl, trivial⟩ (by simp)⟩
          · simp (disch := omega) only [go_sem, ↓reduceIte, Nat.reduceEqDiff, Nat.reduceLT, Nat.reduceLeDiff, Nat.reduceAdd, Nat.reduceMul, Nat.reduceSub, Nat.reduceDiv, Nat.reduceMod, Int.reduceToNat, Int.reduceLT, Int.reduceLE, Int.reduceAdd, Int.reduceSub, Int.reduceMul, Int.reduceEq, Int.reduceNeg, reduceCtorEq, or_false, false_or, decide_true, decide_false, Int.cast_ofNat_Int, Nat.zero_add, Nat.add_zero, Int.toNat_natCast, Option.isNone_none, Option.isNone_some, Bool.not_true, Bool.not_false, Bool.xor_true, Bool.xor_false, Bool.true_xor, Bool.false_xor, decide_true, decide_false, Bool.and_true, Bool.true_and, Bool.and_false, Bool.false_and, eq_self, ne_eq, not_false_eq_true, not_true_eq_false, true_and, and_true, and_self, wrapI64, wrapu64, wrapu32, wrapu8, ltT, ltF, leT, leF, eqF, eqT, nltT, nleT, neqFn]
            refine len_s 1 (l := L) rfl rfl ?_
            simp (disch := omega) only [go_sem, ↓reduceIte, Nat.reduceEqDiff, Nat.reduceLT, Nat.reduceLeDiff, Nat.reduceAdd, Nat.reduceMul, Nat.reduceSub, Nat.reduceDiv, Nat.reduceMod, Int.reduceToNat, Int.reduceLT, Int.reduceLE, Int.reduceAdd, Int.reduceSub, Int.reduceMul, Int.reduceEq, Int.reduceNeg, reduceCtorEq, or_false, false_or, decide_true, decide_false, Int.cast_ofNat_Int, Nat.zero_add, Nat.add_zero, Int.toNat_natCast, Option.isNone_none, Option.isNone_some, Bool.not_true, Bool.not_false, Bool.xor_true, Bool.xor_false, Bool.true_xor, Bool.false_xor, decide_true, decide_false, Bool.and_true, Bool.true_and, Bool.and_false, Bool.false_and, eq_self, ne_eq, not_false_eq_true, not_true_eq_false, true_and, and_true, and_self, wrapI64, wrapu64, wrapu32, wrapu8, ltT, ltF, leT, leF, eqF, eqT, nltT, nleT, neqFn]
            exact fun ρ a w hs _ => ⟨rfl, hs.grown⟩
end Go.Proofs.Ytbdffcgbleiiaaa.CI
