/-
  The document's own table: what its functions do. Conditions: none.
-/
import Derived.Test.YtfokingbglkmjaaRef3
namespace Go.Proofs.Ytfokingbglkmjaa
open Go.RowKit Go.Sx
set_option linter.unusedVariables false
set_option linter.unusedSimpArgs false

theorem inS_k {id : Int} (h : inS id = true) : ∃ k : Nat, id = k ∧ 1 ≤ k ∧ k < 9 := by
  simp [inS] at h; exact ⟨id.toNat, by omega, by omega, by omega⟩
theorem rupd2 (r : Nat → List CV) (k : Nat) (l l' : List CV) : rupd (rupd r k l) k l' = rupd r k l' := by
  funext i; simp only [rupd]; split <;> rfl
theorem rrow_upd {T : Nat → RO} {S : Nat → Option (Nat × Nat)} {k : Nat} {o : RO} {s : Option (Nat × Nat)} {l : List CV} {ρ : Env} (h : l.map (CV.den ρ) = o.row s) (i : Nat) : (rupd (fun i => ((T i).row (S i)).map CV.v) k l i).map (CV.den ρ) = (upd T k o i).row (upd S k s i) := by
  unfold rupd upd
  by_cases hi : i = k
  · simp [hi, h]
  · simp only [hi, if_false]; exact map_v _ _
def rbeginE (U : Nat → RO) (id : Int) (v : V4) : Int := if inS id && v.right then (if (U id.toNat).op then 6 else 0) else 1
def rbeginU (U : Nat → RO) (id : Int) (v : V4) : Nat → RO := if inS id && v.right && !(U id.toNat).op then upd U id.toNat ⟨(U id.toNat).seen, true, v, []⟩ else U
set_option maxRecDepth 100000 in
theorem rbegin_c (g : Nat) (U : Nat → RO) (S : Nat → Option (Nat × Nat)) (id : Int) (v : V4) (w : World) (ht : RTab g U S w) :
    Calls Try.prog 20 #[ptr g, .int .i64 id, v.v] w (RTurn g S (.int .i64 (rbeginE U id v)) (rbeginU U id v) w) := by
  refine rtab_calls ht rfl 41 _ Try.func20 rfl Try.ntmps20 Try.results20 [.c (.p 0 0 0), .c (.v (.int .i64 id)), sv4 v.a v.b v.c v.d] (by simp) (fun ρ h => by simp [SV.denL, SV.den, CV.den, CV.denL, h]) ?_
  simp only [go_sem, ↓reduceIte, Nat.reduceEqDiff, Nat.reduceLT, Nat.reduceLeDiff, Nat.reduceAdd, Nat.reduceMul, Nat.reduceSub, Nat.reduceDiv, Nat.reduceMod, Int.reduceToNat, Int.reduceLT, Int.reduceLE, Int.reduceAdd, Int.reduceSub, Int.reduceMul, Int.reduceEq, Int.reduceNeg, reduceCtorEq, or_false, false_or, decide_true, decide_false, Int.cast_ofNat_Int, Nat.zero_add, Nat.add_zero, Int.toNat_natCast, Option.isNone_none, Option.isNone_some, Bool.not_true, Bool.not_false, Bool.xor_true, Bool.xor_false, Bool.true_xor, Bool.false_xor, decide_true, decide_false, Bool.and_true, Bool.true_and, Bool.and_false, Bool.false_and, eq_self, ne_eq, not_false_eq_true, not_true_eq_false, true_and, and_true, and_self]
  refine scall_pure [.int .i64 id] (.c (.v (.bool (inS id)))) (.bool (inS id)) Try.call82 (ris_c id) rfl (fun _ => rfl) (fun _ => rfl) ?_
  cases hin : inS id
  · simp only [go_sem, ↓reduceIte, Nat.reduceEqDiff, Nat.reduceLT, Nat.reduceLeDiff, Nat.reduceAdd, Nat.reduceMul, Nat.reduceSub, Nat.reduceDiv, Nat.reduceMod, Int.reduceToNat, Int.reduceLT, Int.reduceLE, Int.reduceAdd, Int.reduceSub, Int.reduceMul, Int.reduceEq, Int.reduceNeg, reduceCtorEq, or_false, false_or, decide_true, decide_false, Int.cast_ofNat_Int, Nat.zero_add, Nat.add_zero, Int.toNat_natCast, Option.isNone_none, Option.isNone_some, Bool.not_true, Bool.not_false, Bool.xor_true, Bool.xor_false, Bool.true_xor, Bool.false_xor, decide_true, decide_false, Bool.and_true, Bool.true_and, Bool.and_false, Bool.false_and, eq_self, ne_eq, not_false_eq_true, not_true_eq_false, true_and, and_true, and_self]
    refine fun ρ a w' hs hag => ?_
    obtain ⟨h1, h2⟩ := rtab_ends (T' := U) (S' := S) ht rfl hs hag rfl rfl (fun i _ => map_v _ _) (fun i _ => .inl ⟨rfl, rfl⟩)
    exact ⟨S, by simp [SV.den, CV.den, rbeginE, hin], by simpa [rbeginU, hin] using h1, h2⟩
  obtain ⟨k, rfl, hk1, hk⟩ := inS_k hin
  have d4 : (0 : Int) ≤ k ∧ (k : Int) < 9 := by omega
  have hrow := rrow_eq U S k
  simp only [go_sem, ↓reduceIte, Nat.reduceEqDiff, Nat.reduceLT, Nat.reduceLeDiff, Nat.reduceAdd, Nat.reduceMul, Nat.reduceSub, Nat.reduceDiv, Nat.reduceMod, Int.reduceToNat, Int.reduceLT, Int.reduceLE, Int.reduceAdd, Int.reduceSub, Int.reduceMul, Int.reduceEq, Int.reduceNeg, reduceCtorEq, or_false, false_or, decide_true, decide_false, Int.cast_ofNat_Int, Nat.zero_add, Nat.add_zero, Int.toNat_natCast, Option.isNone_none, Option.isNone_some, Bool.not_true, Bool.not_false, Bool.xor_true, Bool.xor_false, Bool.true_xor, Bool.false_xor, decide_true, decide_false, Bool.and_true, Bool.true_and, Bool.and_false, Bool.false_and, eq_self, ne_eq, not_false_eq_true, not_true_eq_false, true_and, and_true, and_self]
  refine scall_pure [v.v] (.c (.v (.bool v.right))) (.bool v.right) Try.call83 (rright_c v) rfl (fun _ => rfl) (fun _ => rfl) ?_
  cases hv : v.right
  · simp only [go_sem, ↓reduceIte, Nat.reduceEqDiff, Nat.reduceLT, Nat.reduceLeDiff, Nat.reduceAdd, Nat.reduceMul, Nat.reduceSub, Nat.reduceDiv, Nat.reduceMod, Int.reduceToNat, Int.reduceLT, Int.reduceLE, Int.reduceAdd, Int.reduceSub, Int.reduceMul, Int.reduceEq, Int.reduceNeg, reduceCtorEq, or_false, false_or, decide_true, decide_false, Int.cast_ofNat_Int, Nat.zero_add, Nat.add_zero, Int.toNat_natCast, Option.isNone_none, Option.isNone_some, Bool.not_true, Bool.not_false, Bool.xor_true, Bool.xor_false, Bool.true_xor, Bool.false_xor, decide_true, decide_false, Bool.and_true, Bool.true_and, Bool.and_false, Bool.false_and, eq_self, ne_eq, not_false_eq_true, not_true_eq_false, true_and, and_true, and_self]
    refine fun ρ a w' hs hag => ?_
    obtain ⟨h1, h2⟩ := rtab_ends (T' := U) (S' := S) ht rfl hs hag rfl rfl (fun i _ => map_v _ _) (fun i _ => .inl ⟨rfl, rfl⟩)
    exact ⟨S, by simp [SV.den, CV.den, rbeginE, hin, hv], by simpa [rbeginU, hin, hv] using h1, h2⟩
  cases ho : (U k).op
  · simp only [go_sem, ↓reduceIte, Nat.reduceEqDiff, Nat.reduceLT, Nat.reduceLeDiff, Nat.reduceAdd, Nat.reduceMul, Nat.reduceSub, Nat.reduceDiv, Nat.reduceMod, Int.reduceToNat, Int.reduceLT, Int.reduceLE, Int.reduceAdd, Int.reduceSub, Int.reduceMul, Int.reduceEq, Int.reduceNeg, reduceCtorEq, or_false, false_or, decide_true, decide_false, Int.cast_ofNat_Int, Nat.zero_add, Nat.add_zero, Int.toNat_natCast, Option.isNone_none, Option.isNone_some, Bool.not_true, Bool.not_false, Bool.xor_true, Bool.xor_false, Bool.true_xor, Bool.false_xor, decide_true, decide_false, Bool.and_true, Bool.true_and, Bool.and_false, Bool.false_and, eq_self, ne_eq, not_false_eq_true, not_true_eq_false, true_and, and_true, and_self, d4, hrow, hk, ho]
    refine sdraw0 [.t 0, .t 1, .t 2, .t 3, .t 4, .t 5, .t 6, .r 7] 7 rfl (by kernel_rfl) ?_
    simp only [go_sem, ↓reduceIte, Nat.reduceEqDiff, Nat.reduceLT, Nat.reduceLeDiff, Nat.reduceAdd, Nat.reduceMul, Nat.reduceSub, Nat.reduceDiv, Nat.reduceMod, Int.reduceToNat, Int.reduceLT, Int.reduceLE, Int.reduceAdd, Int.reduceSub, Int.reduceMul, Int.reduceEq, Int.reduceNeg, reduceCtorEq, or_false, false_or, decide_true, decide_false, Int.cast_ofNat_Int, Nat.zero_add, Nat.add_zero, Int.toNat_natCast, Option.isNone_none, Option.isNone_some, Bool.not_true, Bool.not_false, Bool.xor_true, Bool.xor_false, Bool.true_xor, Bool.false_xor, decide_true, decide_false, Bool.and_true, Bool.true_and, Bool.and_false, Bool.false_and, eq_self, ne_eq, not_false_eq_true, not_true_eq_false, true_and, and_true, and_self, d4, hk, rupd2]
    refine fun ρ a w' hs hag => ?_
    obtain ⟨h1, h2⟩ := rtab_ends (T' := upd U k ⟨(U k).seen, true, v, []⟩) (S' := upd S k none) ht rfl hs hag rfl rfl (fun i _ => rrow_upd (o := ⟨(U k).seen, true, v, []⟩) (by rfl) i) (fun i _ => by
      by_cases hi : i = k
      · exact .inr (by simp [hi, upd])
      · exact .inl (by simp [hi, upd]))
    exact ⟨upd S k none, by simp [SV.den, CV.den, rbeginE, hin, hv, ho], by simpa [rbeginU, hin, hv, ho] using h1, h2⟩
  · simp only [go_sem, ↓reduceIte, Nat.reduceEqDiff, Nat.reduceLT, Nat.reduceLeDiff, Nat.reduceAdd, Nat.reduceMul, Nat.reduceSub, Nat.reduceDiv, Nat.reduceMod, Int.reduceToNat, Int.reduceLT, Int.reduceLE, Int.reduceAdd, Int.reduceSub, Int.reduceMul, Int.reduceEq, Int.reduceNeg, reduceCtorEq, or_false, false_or, decide_true, decide_false, Int.cast_ofNat_Int, Nat.zero_add, Nat.add_zero, Int.toNat_natCast, Option.isNone_none, Option.isNone_some, Bool.not_true, Bool.not_false, Bool.xor_true, Bool.xor_false, Bool.true_xor, Bool.false_xor, decide_true, decide_false, Bool.and_true, Bool.true_and, Bool.and_false, Bool.false_and, eq_self, ne_eq, not_false_eq_true, not_true_eq_false, true_and, and_true, and_self, d4, hrow, hk, ho]
    refine fun ρ a w' hs hag => ?_
    obtain ⟨h1, h2⟩ := rtab_ends (T' := U) (S' := S) ht rfl hs hag rfl rfl (fun i _ => map_v _ _) (fun i _ => .inl ⟨rfl, rfl⟩)
    exact ⟨S, by simp [SV.den, CV.den, rbeginE, hin, hv, ho], by simpa [rbeginU, hin, hv, ho] using h1, h2⟩
end Go.Proofs.Ytfokingbglkmjaa
