/-
  The document's own table: End, See, Snapshot, Seen. Conditions: none.
-/
import Derived.Test.YtfokingbglkmjaaRef4
import Derived.Test.YtfokingbglkmjaaSx17
namespace Go.Proofs.Ytfokingbglkmjaa
open Go.RowKit Go.Sx
set_option linter.unusedVariables false
set_option linter.unusedSimpArgs false

theorem ris_s {C : Cx} {fr : List (Nat × SV)} {hp : List (Nat × Blk)} {nx : Nat} {d : Option Tmp} {K : St → Prop} {id : Int} (h : dOk C.N d ∧ kput K ⟨fr, hp, nx⟩ d (.c (.v (.bool (inS id))))) : SCall Try.prog C 82 [.c (.v (.int .i64 id))] d K ⟨fr, hp, nx⟩ :=
  scall_pure [.int .i64 id] (.c (.v (.bool (inS id)))) (.bool (inS id)) Try.call82 (ris_c id) rfl (fun _ => rfl) (fun _ => rfl) h
def rendE (U : Nat → RO) (id : Int) : Int := if inS id && (U id.toNat).op then 0 else 5
def rendU (U : Nat → RO) (id : Int) : Nat → RO := if inS id && (U id.toNat).op then upd U id.toNat { U id.toNat with op := false } else U
set_option maxRecDepth 100000 in
theorem rend_c (g : Nat) (U : Nat → RO) (S : Nat → Option (Nat × Nat)) (id : Int) (w : World) (ht : RTab g U S w) :
    Calls Try.prog 22 #[ptr g, .int .i64 id] w (RTurn g S (.int .i64 (rendE U id)) (rendU U id) w) := by
  refine rtab_calls ht rfl 24 _ Try.func22 rfl Try.ntmps22 Try.results22 [.c (.p 0 0 0), .c (.v (.int .i64 id))] (by simp) (fun ρ h => by simp [SV.denL, SV.den, CV.den, CV.denL, h]) ?_
  simp only [go_sem, ↓reduceIte, Nat.reduceEqDiff, Nat.reduceLT, Nat.reduceLeDiff, Nat.reduceAdd, Nat.reduceMul, Nat.reduceSub, Nat.reduceDiv, Nat.reduceMod, Int.reduceToNat, Int.reduceLT, Int.reduceLE, Int.reduceAdd, Int.reduceSub, Int.reduceMul, Int.reduceEq, Int.reduceNeg, reduceCtorEq, or_false, false_or, decide_true, decide_false, Int.cast_ofNat_Int, Nat.zero_add, Nat.add_zero, Int.toNat_natCast, Option.isNone_none, Option.isNone_some, Bool.not_true, Bool.not_false, Bool.xor_true, Bool.xor_false, Bool.true_xor, Bool.false_xor, decide_true, decide_false, Bool.and_true, Bool.true_and, Bool.and_false, Bool.false_and, eq_self, ne_eq, not_false_eq_true, not_true_eq_false, true_and, and_true, and_self]
  refine ris_s ?_
  cases hin : inS id
  · simp only [go_sem, ↓reduceIte, Nat.reduceEqDiff, Nat.reduceLT, Nat.reduceLeDiff, Nat.reduceAdd, Nat.reduceMul, Nat.reduceSub, Nat.reduceDiv, Nat.reduceMod, Int.reduceToNat, Int.reduceLT, Int.reduceLE, Int.reduceAdd, Int.reduceSub, Int.reduceMul, Int.reduceEq, Int.reduceNeg, reduceCtorEq, or_false, false_or, decide_true, decide_false, Int.cast_ofNat_Int, Nat.zero_add, Nat.add_zero, Int.toNat_natCast, Option.isNone_none, Option.isNone_some, Bool.not_true, Bool.not_false, Bool.xor_true, Bool.xor_false, Bool.true_xor, Bool.false_xor, decide_true, decide_false, Bool.and_true, Bool.true_and, Bool.and_false, Bool.false_and, eq_self, ne_eq, not_false_eq_true, not_true_eq_false, true_and, and_true, and_self]
    refine fun ρ a w' hs hag => ?_
    obtain ⟨h1, h2⟩ := rtab_ends (T' := U) (S' := S) ht rfl hs hag rfl rfl (fun i _ => map_v _ _) (fun i _ => .inl ⟨rfl, rfl⟩)
    exact ⟨S, by simp [SV.den, CV.den, rendE, hin], by simpa [rendU, hin] using h1, h2⟩
  obtain ⟨k, rfl, hk1, hk⟩ := inS_k hin
  have hrow := rrow_eq U S k
  cases ho : (U k).op
  · simp (disch := omega) only [go_sem, ↓reduceIte, Nat.reduceEqDiff, Nat.reduceLT, Nat.reduceLeDiff, Nat.reduceAdd, Nat.reduceMul, Nat.reduceSub, Nat.reduceDiv, Nat.reduceMod, Int.reduceToNat, Int.reduceLT, Int.reduceLE, Int.reduceAdd, Int.reduceSub, Int.reduceMul, Int.reduceEq, Int.reduceNeg, reduceCtorEq, or_false, false_or, decide_true, decide_false, Int.cast_ofNat_Int, Nat.zero_add, Nat.add_zero, Int.toNat_natCast, Option.isNone_none, Option.isNone_some, Bool.not_true, Bool.not_false, Bool.xor_true, Bool.xor_false, Bool.true_xor, Bool.false_xor, decide_true, decide_false, Bool.and_true, Bool.true_and, Bool.and_false, Bool.false_and, eq_self, ne_eq, not_false_eq_true, not_true_eq_false, true_and, and_true, and_self, wrapI64, wrapu64, wrapu32, wrapu8, ltT, ltF, leT, leF, eqF, eqT, nltT, nleT, hrow, ho]
    refine fun ρ a w' hs hag => ?_
    obtain ⟨h1, h2⟩ := rtab_ends (T' := U) (S' := S) ht rfl hs hag rfl rfl (fun i _ => map_v _ _) (fun i _ => .inl ⟨rfl, rfl⟩)
    exact ⟨S, by simp [SV.den, CV.den, rendE, hin, ho], by simpa [rendU, hin, ho] using h1, h2⟩
  · simp (disch := omega) only [go_sem, ↓reduceIte, Nat.reduceEqDiff, Nat.reduceLT, Nat.reduceLeDiff, Nat.reduceAdd, Nat.reduceMul, Nat.reduceSub, Nat.reduceDiv, Nat.reduceMod, Int.reduceToNat, Int.reduceLT, Int.reduceLE, Int.reduceAdd, Int.reduceSub, Int.reduceMul, Int.reduceEq, Int.reduceNeg, reduceCtorEq, or_false, false_or, decide_true, decide_false, Int.cast_ofNat_Int, Nat.zero_add, Nat.add_zero, Int.toNat_natCast, Option.isNone_none, Option.isNone_some, Bool.not_true, Bool.not_false, Bool.xor_true, Bool.xor_false, Bool.true_xor, Bool.false_xor, decide_true, decide_false, Bool.and_true, Bool.true_and, Bool.and_false, Bool.false_and, eq_self, ne_eq, not_false_eq_true, not_true_eq_false, true_and, and_true, and_self, wrapI64, wrapu64, wrapu32, wrapu8, ltT, ltF, leT, leF, eqF, eqT, nltT, nleT, hrow, ho]
    refine fun ρ a w' hs hag => ?_
    obtain ⟨h1, h2⟩ := rtab_ends (T' := upd U k { U k with op := false }) (S' := upd S k (S k)) ht rfl hs hag rfl rfl (fun i _ => rrow_upd (o := { U k with op := false }) (s := S k) (by rfl) i) (fun i _ => by
      by_cases hi : i = k
      · exact .inl (by simp [hi, upd])
      · exact .inl (by simp [hi, upd]))
    exact ⟨_, by simp [SV.den, CV.den, rendE, hin, ho], by simpa [rendU, hin, ho] using h1, h2⟩

theorem rjoin_s {C : Cx} {fr : List (Nat × SV)} {hp : List (Nat × Blk)} {nx : Nat} {d : Option Tmp} {K : St → Prop} {a0 a1 a2 a3 b0 b1 b2 b3 : Int} (h : dOk C.N d ∧ kput K ⟨fr, hp, nx⟩ d ((V4.join ⟨a0, a1, a2, a3⟩ ⟨b0, b1, b2, b3⟩).s)) : SCall Try.prog C 85 [.agg [cu a0, cu a1, cu a2, cu a3], .agg [cu b0, cu b1, cu b2, cu b3]] d K ⟨fr, hp, nx⟩ :=
  scall_pure [V4.v ⟨a0, a1, a2, a3⟩, V4.v ⟨b0, b1, b2, b3⟩] _ (V4.join ⟨a0, a1, a2, a3⟩ ⟨b0, b1, b2, b3⟩).v Try.call85 (rjoin_c _ _) rfl (fun _ => rfl) (fun _ => rfl) h
theorem rmeet_s {C : Cx} {fr : List (Nat × SV)} {hp : List (Nat × Blk)} {nx : Nat} {d : Option Tmp} {K : St → Prop} {a0 a1 a2 a3 b0 b1 b2 b3 : Int} (h : dOk C.N d ∧ kput K ⟨fr, hp, nx⟩ d ((V4.meet ⟨a0, a1, a2, a3⟩ ⟨b0, b1, b2, b3⟩).s)) : SCall Try.prog C 89 [.agg [cu a0, cu a1, cu a2, cu a3], .agg [cu b0, cu b1, cu b2, cu b3]] d K ⟨fr, hp, nx⟩ :=
  scall_pure [V4.v ⟨a0, a1, a2, a3⟩, V4.v ⟨b0, b1, b2, b3⟩] _ (V4.meet ⟨a0, a1, a2, a3⟩ ⟨b0, b1, b2, b3⟩).v Try.call89 (rmeet_c _ _) rfl (fun _ => rfl) (fun _ => rfl) h
theorem rright_s {C : Cx} {fr : List (Nat × SV)} {hp : List (Nat × Blk)} {nx : Nat} {d : Option Tmp} {K : St → Prop} {a0 a1 a2 a3 : Int} (h : dOk C.N d ∧ kput K ⟨fr, hp, nx⟩ d (.c (.v (.bool (V4.right ⟨a0, a1, a2, a3⟩))))) : SCall Try.prog C 83 [.agg [cu a0, cu a1, cu a2, cu a3]] d K ⟨fr, hp, nx⟩ :=
  scall_pure [V4.v ⟨a0, a1, a2, a3⟩] _ (.bool (V4.right ⟨a0, a1, a2, a3⟩)) Try.call83 (rright_c _) rfl (fun _ => rfl) (fun _ => rfl) h
def rseeU (U : Nat → RO) (id : Int) (v : V4) : Nat → RO := if inS id && v.right then upd U id.toNat { U id.toNat with seen := (U id.toNat).seen.join v } else U
set_option maxRecDepth 100000 in
theorem rsee_c (g : Nat) (U : Nat → RO) (S : Nat → Option (Nat × Nat)) (id : Int) (v : V4) (w : World) (ht : RTab g U S w) :
    Calls Try.prog 24 #[ptr g, .int .i64 id, v.v] w (RTurn g S (.bool (inS id && v.right)) (rseeU U id v) w) := by
  refine rtab_calls ht rfl 30 _ Try.func24 rfl Try.ntmps24 Try.results24 [.c (.p 0 0 0), .c (.v (.int .i64 id)), sv4 v.a v.b v.c v.d] (by simp) (fun ρ h => by simp [SV.denL, SV.den, CV.den, CV.denL, h]) ?_
  simp only [go_sem, ↓reduceIte, Nat.reduceEqDiff, Nat.reduceLT, Nat.reduceLeDiff, Nat.reduceAdd, Nat.reduceMul, Nat.reduceSub, Nat.reduceDiv, Nat.reduceMod, Int.reduceToNat, Int.reduceLT, Int.reduceLE, Int.reduceAdd, Int.reduceSub, Int.reduceMul, Int.reduceEq, Int.reduceNeg, reduceCtorEq, or_false, false_or, decide_true, decide_false, Int.cast_ofNat_Int, Nat.zero_add, Nat.add_zero, Int.toNat_natCast, Option.isNone_none, Option.isNone_some, Bool.not_true, Bool.not_false, Bool.xor_true, Bool.xor_false, Bool.true_xor, Bool.false_xor, decide_true, decide_false, Bool.and_true, Bool.true_and, Bool.and_false, Bool.false_and, eq_self, ne_eq, not_false_eq_true, not_true_eq_false, true_and, and_true, and_self]
  refine ris_s ?_
  cases hin : inS id
  · simp only [go_sem, ↓reduceIte, Nat.reduceEqDiff, Nat.reduceLT, Nat.reduceLeDiff, Nat.reduceAdd, Nat.reduceMul, Nat.reduceSub, Nat.reduceDiv, Nat.reduceMod, Int.reduceToNat, Int.reduceLT, Int.reduceLE, Int.reduceAdd, Int.reduceSub, Int.reduceMul, Int.reduceEq, Int.reduceNeg, reduceCtorEq, or_false, false_or, decide_true, decide_false, Int.cast_ofNat_Int, Nat.zero_add, Nat.add_zero, Int.toNat_natCast, Option.isNone_none, Option.isNone_some, Bool.not_true, Bool.not_false, Bool.xor_true, Bool.xor_false, Bool.true_xor, Bool.false_xor, decide_true, decide_false, Bool.and_true, Bool.true_and, Bool.and_false, Bool.false_and, eq_self, ne_eq, not_false_eq_true, not_true_eq_false, true_and, and_true, and_self]
    refine fun ρ a w' hs hag => ?_
    obtain ⟨h1, h2⟩ := rtab_ends (T' := U) (S' := S) ht rfl hs hag rfl rfl (fun i _ => map_v _ _) (fun i _ => .inl ⟨rfl, rfl⟩)
    exact ⟨S, by simp [SV.den, CV.den], by simpa [rseeU, hin] using h1, h2⟩
  obtain ⟨k, rfl, hk1, hk⟩ := inS_k hin
  have hrow := rrow_eq U S k
  simp only [go_sem, ↓reduceIte, Nat.reduceEqDiff, Nat.reduceLT, Nat.reduceLeDiff, Nat.reduceAdd, Nat.reduceMul, Nat.reduceSub, Nat.reduceDiv, Nat.reduceMod, Int.reduceToNat, Int.reduceLT, Int.reduceLE, Int.reduceAdd, Int.reduceSub, Int.reduceMul, Int.reduceEq, Int.reduceNeg, reduceCtorEq, or_false, false_or, decide_true, decide_false, Int.cast_ofNat_Int, Nat.zero_add, Nat.add_zero, Int.toNat_natCast, Option.isNone_none, Option.isNone_some, Bool.not_true, Bool.not_false, Bool.xor_true, Bool.xor_false, Bool.true_xor, Bool.false_xor, decide_true, decide_false, Bool.and_true, Bool.true_and, Bool.and_false, Bool.false_and, eq_self, ne_eq, not_false_eq_true, not_true_eq_false, true_and, and_true, and_self]
  refine rright_s ?_
  cases hv : v.right
  · simp (disch := omega) only [go_sem, ↓reduceIte, Nat.reduceEqDiff, Nat.reduceLT, Nat.reduceLeDiff, Nat.reduceAdd, Nat.reduceMul, Nat.reduceSub, Nat.reduceDiv, Nat.reduceMod, Int.reduceToNat, Int.reduceLT, Int.reduceLE, Int.reduceAdd, Int.reduceSub, Int.reduceMul, Int.reduceEq, Int.reduceNeg, reduceCtorEq, or_false, false_or, decide_true, decide_false, Int.cast_ofNat_Int, Nat.zero_add, Nat.add_zero, Int.toNat_natCast, Option.isNone_none, Option.isNone_some, Bool.not_true, Bool.not_false, Bool.xor_true, Bool.xor_false, Bool.true_xor, Bool.false_xor, decide_true, decide_false, Bool.and_true, Bool.true_and, Bool.and_false, Bool.false_and, eq_self, ne_eq, not_false_eq_true, not_true_eq_false, true_and, and_true, and_self, wrapI64, wrapu64, wrapu32, wrapu8, ltT, ltF, leT, leF, eqF, eqT, nltT, nleT, hrow, hv]
    refine fun ρ a w' hs hag => ?_
    obtain ⟨h1, h2⟩ := rtab_ends (T' := U) (S' := S) ht rfl hs hag rfl rfl (fun i _ => map_v _ _) (fun i _ => .inl ⟨rfl, rfl⟩)
    exact ⟨S, by simp [SV.den, CV.den], by simpa [rseeU, hin, hv] using h1, h2⟩
  · simp (disch := omega) only [go_sem, ↓reduceIte, Nat.reduceEqDiff, Nat.reduceLT, Nat.reduceLeDiff, Nat.reduceAdd, Nat.reduceMul, Nat.reduceSub, Nat.reduceDiv, Nat.reduceMod, Int.reduceToNat, Int.reduceLT, Int.reduceLE, Int.reduceAdd, Int.reduceSub, Int.reduceMul, Int.reduceEq, Int.reduceNeg, reduceCtorEq, or_false, false_or, decide_true, decide_false, Int.cast_ofNat_Int, Nat.zero_add, Nat.add_zero, Int.toNat_natCast, Option.isNone_none, Option.isNone_some, Bool.not_true, Bool.not_false, Bool.xor_true, Bool.xor_false, Bool.true_xor, Bool.false_xor, decide_true, decide_false, Bool.and_true, Bool.true_and, Bool.and_false, Bool.false_and, eq_self, ne_eq, not_false_eq_true, not_true_eq_false, true_and, and_true, and_self, wrapI64, wrapu64, wrapu32, wrapu8, ltT, ltF, leT, leF, eqF, eqT, nltT, nleT, hrow, hv]
    refine sdraw0 [.t 0, .t 1, .t 2, .t 3, .t 4, .t 5, .t 6, .t 7, .t 8, .t 9, .t 11, .t 12, .r 10, .t 13, .t 14, .r 15] 15 rfl (by kernel_rfl) ?_
    simp (disch := omega) only [go_sem, ↓reduceIte, Nat.reduceEqDiff, Nat.reduceLT, Nat.reduceLeDiff, Nat.reduceAdd, Nat.reduceMul, Nat.reduceSub, Nat.reduceDiv, Nat.reduceMod, Int.reduceToNat, Int.reduceLT, Int.reduceLE, Int.reduceAdd, Int.reduceSub, Int.reduceMul, Int.reduceEq, Int.reduceNeg, reduceCtorEq, or_false, false_or, decide_true, decide_false, Int.cast_ofNat_Int, Nat.zero_add, Nat.add_zero, Int.toNat_natCast, Option.isNone_none, Option.isNone_some, Bool.not_true, Bool.not_false, Bool.xor_true, Bool.xor_false, Bool.true_xor, Bool.false_xor, decide_true, decide_false, Bool.and_true, Bool.true_and, Bool.and_false, Bool.false_and, eq_self, ne_eq, not_false_eq_true, not_true_eq_false, true_and, and_true, and_self, wrapI64, wrapu64, wrapu32, wrapu8, ltT, ltF, leT, leF, eqF, eqT, nltT, nleT, hrow]
    refine rjoin_s ?_
    simp (disch := omega) only [go_sem, ↓reduceIte, Nat.reduceEqDiff, Nat.reduceLT, Nat.reduceLeDiff, Nat.reduceAdd, Nat.reduceMul, Nat.reduceSub, Nat.reduceDiv, Nat.reduceMod, Int.reduceToNat, Int.reduceLT, Int.reduceLE, Int.reduceAdd, Int.reduceSub, Int.reduceMul, Int.reduceEq, Int.reduceNeg, reduceCtorEq, or_false, false_or, decide_true, decide_false, Int.cast_ofNat_Int, Nat.zero_add, Nat.add_zero, Int.toNat_natCast, Option.isNone_none, Option.isNone_some, Bool.not_true, Bool.not_false, Bool.xor_true, Bool.xor_false, Bool.true_xor, Bool.false_xor, decide_true, decide_false, Bool.and_true, Bool.true_and, Bool.and_false, Bool.false_and, eq_self, ne_eq, not_false_eq_true, not_true_eq_false, true_and, and_true, and_self, wrapI64, wrapu64, wrapu32, wrapu8, ltT, ltF, leT, leF, eqF, eqT, nltT, nleT, hrow]
    refine fun ρ a w' hs hag => ?_
    obtain ⟨h1, h2⟩ := rtab_ends (T' := upd U k { U k with seen := (U k).seen.join v }) (S' := upd S k (S k)) ht rfl hs hag rfl rfl (fun i _ => rrow_upd (o := { U k with seen := (U k).seen.join v }) (s := S k) (by rfl) i) (fun i _ => by
      by_cases hi : i = k
      · exact .inl (by simp [hi, upd])
      · exact .inl (by simp [hi, upd]))
    exact ⟨_, by simp [SV.den, CV.den], by simpa [rseeU, hin, hv] using h1, h2⟩
def rsnapV (U : Nat → RO) (id : Int) : V4 := if inS id && (U id.toNat).op then (U id.toNat).sn else ⟨0, 0, 0, 0⟩
set_option maxRecDepth 100000 in
theorem rsnap_c (g : Nat) (U : Nat → RO) (S : Nat → Option (Nat × Nat)) (id : Int) (w : World) (ht : RTab g U S w) :
    Calls Try.prog 29 #[ptr g, .int .i64 id] w (RKeep g U S (.tuple #[(rsnapV U id).v, .bool (inS id && (U id.toNat).op)]) w) := by
  refine rtab_calls ht rfl 27 _ Try.func29 rfl Try.ntmps29 Try.results29 [.c (.p 0 0 0), .c (.v (.int .i64 id))] (by simp) (fun ρ h => by simp [SV.denL, SV.den, CV.den, CV.denL, h]) ?_
  simp only [go_sem, ↓reduceIte, Nat.reduceEqDiff, Nat.reduceLT, Nat.reduceLeDiff, Nat.reduceAdd, Nat.reduceMul, Nat.reduceSub, Nat.reduceDiv, Nat.reduceMod, Int.reduceToNat, Int.reduceLT, Int.reduceLE, Int.reduceAdd, Int.reduceSub, Int.reduceMul, Int.reduceEq, Int.reduceNeg, reduceCtorEq, or_false, false_or, decide_true, decide_false, Int.cast_ofNat_Int, Nat.zero_add, Nat.add_zero, Int.toNat_natCast, Option.isNone_none, Option.isNone_some, Bool.not_true, Bool.not_false, Bool.xor_true, Bool.xor_false, Bool.true_xor, Bool.false_xor, decide_true, decide_false, Bool.and_true, Bool.true_and, Bool.and_false, Bool.false_and, eq_self, ne_eq, not_false_eq_true, not_true_eq_false, true_and, and_true, and_self]
  refine ris_s ?_
  cases hin : inS id
  · simp only [go_sem, ↓reduceIte, Nat.reduceEqDiff, Nat.reduceLT, Nat.reduceLeDiff, Nat.reduceAdd, Nat.reduceMul, Nat.reduceSub, Nat.reduceDiv, Nat.reduceMod, Int.reduceToNat, Int.reduceLT, Int.reduceLE, Int.reduceAdd, Int.reduceSub, Int.reduceMul, Int.reduceEq, Int.reduceNeg, reduceCtorEq, or_false, false_or, decide_true, decide_false, Int.cast_ofNat_Int, Nat.zero_add, Nat.add_zero, Int.toNat_natCast, Option.isNone_none, Option.isNone_some, Bool.not_true, Bool.not_false, Bool.xor_true, Bool.xor_false, Bool.true_xor, Bool.false_xor, decide_true, decide_false, Bool.and_true, Bool.true_and, Bool.and_false, Bool.false_and, eq_self, ne_eq, not_false_eq_true, not_true_eq_false, true_and, and_true, and_self]
    refine fun ρ a w' hs hag => ?_
    obtain ⟨h1, h2⟩ := rtab_ends (T' := U) (S' := S) ht rfl hs hag rfl rfl (fun i _ => map_v _ _) (fun i _ => .inl ⟨rfl, rfl⟩)
    exact ⟨by simp [SV.den, CV.den, SV.denL, CV.denL, rsnapV, hin], h1, h2⟩
  obtain ⟨k, rfl, hk1, hk⟩ := inS_k hin
  have hrow := rrow_eq U S k
  cases ho : (U k).op
  all_goals
    simp (disch := omega) only [go_sem, ↓reduceIte, Nat.reduceEqDiff, Nat.reduceLT, Nat.reduceLeDiff, Nat.reduceAdd, Nat.reduceMul, Nat.reduceSub, Nat.reduceDiv, Nat.reduceMod, Int.reduceToNat, Int.reduceLT, Int.reduceLE, Int.reduceAdd, Int.reduceSub, Int.reduceMul, Int.reduceEq, Int.reduceNeg, reduceCtorEq, or_false, false_or, decide_true, decide_false, Int.cast_ofNat_Int, Nat.zero_add, Nat.add_zero, Int.toNat_natCast, Option.isNone_none, Option.isNone_some, Bool.not_true, Bool.not_false, Bool.xor_true, Bool.xor_false, Bool.true_xor, Bool.false_xor, decide_true, decide_false, Bool.and_true, Bool.true_and, Bool.and_false, Bool.false_and, eq_self, ne_eq, not_false_eq_true, not_true_eq_false, true_and, and_true, and_self, wrapI64, wrapu64, wrapu32, wrapu8, ltT, ltF, leT, leF, eqF, eqT, nltT, nleT, hrow, ho]
    refine fun ρ a w' hs hag => ?_
    obtain ⟨h1, h2⟩ := rtab_ends (T' := U) (S' := S) ht rfl hs hag rfl rfl (fun i _ => map_v _ _) (fun i _ => .inl ⟨rfl, rfl⟩)
    exact ⟨by simp [SV.den, CV.den, SV.denL, CV.denL, rsnapV, hin, ho], h1, h2⟩
def rseenV (U : Nat → RO) (id : Int) : V4 := if inS id then (U id.toNat).seen else ⟨0, 0, 0, 0⟩
set_option maxRecDepth 100000 in
theorem rseen_c (g : Nat) (U : Nat → RO) (S : Nat → Option (Nat × Nat)) (id : Int) (w : World) (ht : RTab g U S w) :
    Calls Try.prog 35 #[ptr g, .int .i64 id] w (RKeep g U S (rseenV U id).v w) := by
  refine rtab_calls ht rfl 16 _ Try.func35 rfl Try.ntmps35 Try.results35 [.c (.p 0 0 0), .c (.v (.int .i64 id))] (by simp) (fun ρ h => by simp [SV.denL, SV.den, CV.den, CV.denL, h]) ?_
  simp only [go_sem, ↓reduceIte, Nat.reduceEqDiff, Nat.reduceLT, Nat.reduceLeDiff, Nat.reduceAdd, Nat.reduceMul, Nat.reduceSub, Nat.reduceDiv, Nat.reduceMod, Int.reduceToNat, Int.reduceLT, Int.reduceLE, Int.reduceAdd, Int.reduceSub, Int.reduceMul, Int.reduceEq, Int.reduceNeg, reduceCtorEq, or_false, false_or, decide_true, decide_false, Int.cast_ofNat_Int, Nat.zero_add, Nat.add_zero, Int.toNat_natCast, Option.isNone_none, Option.isNone_some, Bool.not_true, Bool.not_false, Bool.xor_true, Bool.xor_false, Bool.true_xor, Bool.false_xor, decide_true, decide_false, Bool.and_true, Bool.true_and, Bool.and_false, Bool.false_and, eq_self, ne_eq, not_false_eq_true, not_true_eq_false, true_and, and_true, and_self]
  refine ris_s ?_
  cases hin : inS id
  · simp only [go_sem, ↓reduceIte, Nat.reduceEqDiff, Nat.reduceLT, Nat.reduceLeDiff, Nat.reduceAdd, Nat.reduceMul, Nat.reduceSub, Nat.reduceDiv, Nat.reduceMod, Int.reduceToNat, Int.reduceLT, Int.reduceLE, Int.reduceAdd, Int.reduceSub, Int.reduceMul, Int.reduceEq, Int.reduceNeg, reduceCtorEq, or_false, false_or, decide_true, decide_false, Int.cast_ofNat_Int, Nat.zero_add, Nat.add_zero, Int.toNat_natCast, Option.isNone_none, Option.isNone_some, Bool.not_true, Bool.not_false, Bool.xor_true, Bool.xor_false, Bool.true_xor, Bool.false_xor, decide_true, decide_false, Bool.and_true, Bool.true_and, Bool.and_false, Bool.false_and, eq_self, ne_eq, not_false_eq_true, not_true_eq_false, true_and, and_true, and_self]
    refine fun ρ a w' hs hag => ?_
    obtain ⟨h1, h2⟩ := rtab_ends (T' := U) (S' := S) ht rfl hs hag rfl rfl (fun i _ => map_v _ _) (fun i _ => .inl ⟨rfl, rfl⟩)
    exact ⟨by simp [SV.den, CV.den, SV.denL, CV.denL, rseenV, hin], h1, h2⟩
  obtain ⟨k, rfl, hk1, hk⟩ := inS_k hin
  have hrow := rrow_eq U S k
  simp (disch := omega) only [go_sem, ↓reduceIte, Nat.reduceEqDiff, Nat.reduceLT, Nat.reduceLeDiff, Nat.reduceAdd, Nat.reduceMul, Nat.reduceSub, Nat.reduceDiv, Nat.reduceMod, Int.reduceToNat, Int.reduceLT, Int.reduceLE, Int.reduceAdd, Int.reduceSub, Int.reduceMul, Int.reduceEq, Int.reduceNeg, reduceCtorEq, or_false, false_or, decide_true, decide_false, Int.cast_ofNat_Int, Nat.zero_add, Nat.add_zero, Int.toNat_natCast, Option.isNone_none, Option.isNone_some, Bool.not_true, Bool.not_false, Bool.xor_true, Bool.xor_false, Bool.true_xor, Bool.false_xor, decide_true, decide_false, Bool.and_true, Bool.true_and, Bool.and_false, Bool.false_and, eq_self, ne_eq, not_false_eq_true, not_true_eq_false, true_and, and_true, and_self, wrapI64, wrapu64, wrapu32, wrapu8, ltT, ltF, leT, leF, eqF, eqT, nltT, nleT, hrow]
  refine fun ρ a w' hs hag => ?_
  obtain ⟨h1, h2⟩ := rtab_ends (T' := U) (S' := S) ht rfl hs hag rfl rfl (fun i _ => map_v _ _) (fun i _ => .inl ⟨rfl, rfl⟩)
  exact ⟨by simp [SV.den, CV.den, SV.denL, CV.denL, rseenV, hin], h1, h2⟩
def rWs (U : Nat → RO) (id : Int) : List Wr := if inS id && (U id.toNat).op then (U id.toNat).ws else []
def rSl (U : Nat → RO) (S : Nat → Option (Nat × Nat)) (id : Int) : Option (Nat × Nat) := if inS id && (U id.toNat).op then S id.toNat else none
set_option maxRecDepth 100000 in
theorem rwrites_c (g : Nat) (U : Nat → RO) (S : Nat → Option (Nat × Nat)) (id : Int) (w : World) (ht : RTab g U S w) :
    Calls Try.prog 33 #[ptr g, .int .i64 id] w (RKeep g U S (slv (rSl U S id) (rWs U id).length) w) := by
  refine rtab_calls ht rfl 25 _ Try.func33 rfl Try.ntmps33 Try.results33 [.c (.p 0 0 0), .c (.v (.int .i64 id))] (by simp) (fun ρ h => by simp [SV.denL, SV.den, CV.den, CV.denL, h]) ?_
  simp only [go_sem, ↓reduceIte, Nat.reduceEqDiff, Nat.reduceLT, Nat.reduceLeDiff, Nat.reduceAdd, Nat.reduceMul, Nat.reduceSub, Nat.reduceDiv, Nat.reduceMod, Int.reduceToNat, Int.reduceLT, Int.reduceLE, Int.reduceAdd, Int.reduceSub, Int.reduceMul, Int.reduceEq, Int.reduceNeg, reduceCtorEq, or_false, false_or, decide_true, decide_false, Int.cast_ofNat_Int, Nat.zero_add, Nat.add_zero, Int.toNat_natCast, Option.isNone_none, Option.isNone_some, Bool.not_true, Bool.not_false, Bool.xor_true, Bool.xor_false, Bool.true_xor, Bool.false_xor, decide_true, decide_false, Bool.and_true, Bool.true_and, Bool.and_false, Bool.false_and, eq_self, ne_eq, not_false_eq_true, not_true_eq_false, true_and, and_true, and_self]
  refine ris_s ?_
  cases hin : inS id
  · simp only [go_sem, ↓reduceIte, Nat.reduceEqDiff, Nat.reduceLT, Nat.reduceLeDiff, Nat.reduceAdd, Nat.reduceMul, Nat.reduceSub, Nat.reduceDiv, Nat.reduceMod, Int.reduceToNat, Int.reduceLT, Int.reduceLE, Int.reduceAdd, Int.reduceSub, Int.reduceMul, Int.reduceEq, Int.reduceNeg, reduceCtorEq, or_false, false_or, decide_true, decide_false, Int.cast_ofNat_Int, Nat.zero_add, Nat.add_zero, Int.toNat_natCast, Option.isNone_none, Option.isNone_some, Bool.not_true, Bool.not_false, Bool.xor_true, Bool.xor_false, Bool.true_xor, Bool.false_xor, decide_true, decide_false, Bool.and_true, Bool.true_and, Bool.and_false, Bool.false_and, eq_self, ne_eq, not_false_eq_true, not_true_eq_false, true_and, and_true, and_self]
    refine fun ρ a w' hs hag => ?_
    obtain ⟨h1, h2⟩ := rtab_ends (T' := U) (S' := S) ht rfl hs hag rfl rfl (fun i _ => map_v _ _) (fun i _ => .inl ⟨rfl, rfl⟩)
    exact ⟨by simp [SV.den, CV.den, SV.denL, CV.denL, rSl, rWs, slv, hin], h1, h2⟩
  obtain ⟨k, rfl, hk1, hk⟩ := inS_k hin
  have hrow := rrow_eq U S k
  cases ho : (U k).op
  all_goals
    simp (disch := omega) only [go_sem, ↓reduceIte, Nat.reduceEqDiff, Nat.reduceLT, Nat.reduceLeDiff, Nat.reduceAdd, Nat.reduceMul, Nat.reduceSub, Nat.reduceDiv, Nat.reduceMod, Int.reduceToNat, Int.reduceLT, Int.reduceLE, Int.reduceAdd, Int.reduceSub, Int.reduceMul, Int.reduceEq, Int.reduceNeg, reduceCtorEq, or_false, false_or, decide_true, decide_false, Int.cast_ofNat_Int, Nat.zero_add, Nat.add_zero, Int.toNat_natCast, Option.isNone_none, Option.isNone_some, Bool.not_true, Bool.not_false, Bool.xor_true, Bool.xor_false, Bool.true_xor, Bool.false_xor, decide_true, decide_false, Bool.and_true, Bool.true_and, Bool.and_false, Bool.false_and, eq_self, ne_eq, not_false_eq_true, not_true_eq_false, true_and, and_true, and_self, wrapI64, wrapu64, wrapu32, wrapu8, ltT, ltF, leT, leF, eqF, eqT, nltT, nleT, hrow, ho]
    refine fun ρ a w' hs hag => ?_
    obtain ⟨h1, h2⟩ := rtab_ends (T' := U) (S' := S) ht rfl hs hag rfl rfl (fun i _ => map_v _ _) (fun i _ => .inl ⟨rfl, rfl⟩)
    exact ⟨by simp [SV.den, CV.den, SV.denL, CV.denL, rSl, rWs, slv, hin, ho], h1, h2⟩
end Go.Proofs.Ytfokingbglkmjaa
