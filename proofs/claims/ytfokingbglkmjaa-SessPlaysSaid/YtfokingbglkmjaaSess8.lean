/-
  Writing in a transaction. Conditions: none.
-/
import Derived.Test.YtfokingbglkmjaaSess7
namespace Go.Proofs.Ytfokingbglkmjaa
open Go.RowKit Go.Sx
set_option linter.unusedVariables false
set_option linter.unusedSimpArgs false

/-- A transaction's writes, one more written. -/
def putW (ws : List Wr) (x : Wr) : List Wr := match ws.findIdx? (hit x.b x.k) with | some i => ws.set i x | none => ws ++ [x]
def fits (ws : List Wr) (x : Wr) : Bool := (ws.findIdx? (hit x.b x.k)).isSome || decide (ws.length < 8)
def writeE (T : Nat → One) (id : Int) (x : Wr) : Int := if inS id && (T id.toNat).is then (if x.right then (if fits (T id.toNat).ws x then 0 else 4) else 1) else 5
def writeT (T : Nat → One) (id : Int) (x : Wr) : Nat → One := if inS id && (T id.toNat).is && x.right && fits (T id.toNat).ws x then upd T id.toNat ⟨(T id.toNat).seen, some ((T id.toNat).sn, putW (T id.toNat).ws x)⟩ else T

theorem write_c (g : Nat) (T : Nat → One) (fp : List Nat) (id : Int) (x : Wr) (w : World) (ht : TabIs g T fp w) :
    Calls Try.prog 25 #[ptr g, .int .i64 id, x.v] w (Turns g fp (.int .i64 (writeE T id x)) (writeT T id x) w) := by
  obtain ⟨S, hS, hfp⟩ := ht
  by_cases h1 : id < 1
  · have d1 : decide (id < 1) = true := by simp [h1]
    have d2 : inS id = false := by simp [inS]; omega
    refine tab_callsS hS hfp 50 _ Try.func25 rfl Try.ntmps25 Try.results25 [.c (.p 0 0 0), .c (.v (.int .i64 id)), .agg [.v (.string x.b), .v (.string x.k), .v (.string x.x), .v (.bool x.g)]] (by simp) (fun ρ h => by simp [SV.denL, SV.den, CV.den, CV.denL, h]) ?_
    simp only [go_sem, ↓reduceIte, Nat.reduceEqDiff, Nat.reduceLT, Nat.reduceLeDiff, Nat.reduceAdd, Nat.reduceMul, Nat.reduceSub, Nat.reduceDiv, Nat.reduceMod, Int.reduceToNat, Int.reduceLT, Int.reduceLE, Int.reduceAdd, Int.reduceSub, Int.reduceMul, Int.reduceEq, Int.reduceNeg, reduceCtorEq, or_false, false_or, decide_true, decide_false, Int.cast_ofNat_Int, Nat.zero_add, Nat.add_zero, Int.toNat_natCast, Option.isNone_none, Option.isNone_some, Bool.not_true, Bool.not_false, Bool.xor_true, Bool.xor_false, Bool.true_xor, Bool.false_xor, decide_true, decide_false, Bool.and_true, Bool.true_and, Bool.and_false, Bool.false_and, eq_self, ne_eq, not_false_eq_true, not_true_eq_false, true_and, and_true, and_self]
    refine scall_in 23 _ Try.func84 rfl Try.ntmps84 Try.results84 Try.call84 ?_
    simp only [go_sem, ↓reduceIte, Nat.reduceEqDiff, Nat.reduceLT, Nat.reduceLeDiff, Nat.reduceAdd, Nat.reduceMul, Nat.reduceSub, Nat.reduceDiv, Nat.reduceMod, Int.reduceToNat, Int.reduceLT, Int.reduceLE, Int.reduceAdd, Int.reduceSub, Int.reduceMul, Int.reduceEq, Int.reduceNeg, reduceCtorEq, or_false, false_or, decide_true, decide_false, Int.cast_ofNat_Int, Nat.zero_add, Nat.add_zero, Int.toNat_natCast, Option.isNone_none, Option.isNone_some, Bool.not_true, Bool.not_false, Bool.xor_true, Bool.xor_false, Bool.true_xor, Bool.false_xor, decide_true, decide_false, Bool.and_true, Bool.true_and, Bool.and_false, Bool.false_and, eq_self, ne_eq, not_false_eq_true, not_true_eq_false, true_and, and_true, and_self]
    refine scall_in 16 _ Try.func81 rfl Try.ntmps81 Try.results81 Try.call81 ?_
    simp only [go_sem, ↓reduceIte, Nat.reduceEqDiff, Nat.reduceLT, Nat.reduceLeDiff, Nat.reduceAdd, Nat.reduceMul, Nat.reduceSub, Nat.reduceDiv, Nat.reduceMod, Int.reduceToNat, Int.reduceLT, Int.reduceLE, Int.reduceAdd, Int.reduceSub, Int.reduceMul, Int.reduceEq, Int.reduceNeg, reduceCtorEq, or_false, false_or, decide_true, decide_false, Int.cast_ofNat_Int, Nat.zero_add, Nat.add_zero, Int.toNat_natCast, Option.isNone_none, Option.isNone_some, Bool.not_true, Bool.not_false, Bool.xor_true, Bool.xor_false, Bool.true_xor, Bool.false_xor, decide_true, decide_false, Bool.and_true, Bool.true_and, Bool.and_false, Bool.false_and, eq_self, ne_eq, not_false_eq_true, not_true_eq_false, true_and, and_true, and_self, d1]
    refine fun ρ a w' hs hag => ?_
    obtain ⟨fp', h1, h2⟩ := tab_ends (T' := T) (S' := S) hS hfp hs hag rfl rfl (fun i _ => map_v _ _) (fun i _ => .inl ⟨rfl, rfl⟩)
    exact ⟨fp', by simp [SV.den, CV.den, writeE, d2], by simpa [writeT, d2] using h1, h2⟩
  by_cases h2 : 8 < id
  · have d1 : decide (id < 1) = false := by simp [h1]
    have d3 : decide (8 < id) = true := by simp [h2]
    have d2 : inS id = false := by simp [inS]; omega
    refine tab_callsS hS hfp 50 _ Try.func25 rfl Try.ntmps25 Try.results25 [.c (.p 0 0 0), .c (.v (.int .i64 id)), .agg [.v (.string x.b), .v (.string x.k), .v (.string x.x), .v (.bool x.g)]] (by simp) (fun ρ h => by simp [SV.denL, SV.den, CV.den, CV.denL, h]) ?_
    simp only [go_sem, ↓reduceIte, Nat.reduceEqDiff, Nat.reduceLT, Nat.reduceLeDiff, Nat.reduceAdd, Nat.reduceMul, Nat.reduceSub, Nat.reduceDiv, Nat.reduceMod, Int.reduceToNat, Int.reduceLT, Int.reduceLE, Int.reduceAdd, Int.reduceSub, Int.reduceMul, Int.reduceEq, Int.reduceNeg, reduceCtorEq, or_false, false_or, decide_true, decide_false, Int.cast_ofNat_Int, Nat.zero_add, Nat.add_zero, Int.toNat_natCast, Option.isNone_none, Option.isNone_some, Bool.not_true, Bool.not_false, Bool.xor_true, Bool.xor_false, Bool.true_xor, Bool.false_xor, decide_true, decide_false, Bool.and_true, Bool.true_and, Bool.and_false, Bool.false_and, eq_self, ne_eq, not_false_eq_true, not_true_eq_false, true_and, and_true, and_self]
    refine scall_in 23 _ Try.func84 rfl Try.ntmps84 Try.results84 Try.call84 ?_
    simp only [go_sem, ↓reduceIte, Nat.reduceEqDiff, Nat.reduceLT, Nat.reduceLeDiff, Nat.reduceAdd, Nat.reduceMul, Nat.reduceSub, Nat.reduceDiv, Nat.reduceMod, Int.reduceToNat, Int.reduceLT, Int.reduceLE, Int.reduceAdd, Int.reduceSub, Int.reduceMul, Int.reduceEq, Int.reduceNeg, reduceCtorEq, or_false, false_or, decide_true, decide_false, Int.cast_ofNat_Int, Nat.zero_add, Nat.add_zero, Int.toNat_natCast, Option.isNone_none, Option.isNone_some, Bool.not_true, Bool.not_false, Bool.xor_true, Bool.xor_false, Bool.true_xor, Bool.false_xor, decide_true, decide_false, Bool.and_true, Bool.true_and, Bool.and_false, Bool.false_and, eq_self, ne_eq, not_false_eq_true, not_true_eq_false, true_and, and_true, and_self]
    refine scall_in 16 _ Try.func81 rfl Try.ntmps81 Try.results81 Try.call81 ?_
    simp only [go_sem, ↓reduceIte, Nat.reduceEqDiff, Nat.reduceLT, Nat.reduceLeDiff, Nat.reduceAdd, Nat.reduceMul, Nat.reduceSub, Nat.reduceDiv, Nat.reduceMod, Int.reduceToNat, Int.reduceLT, Int.reduceLE, Int.reduceAdd, Int.reduceSub, Int.reduceMul, Int.reduceEq, Int.reduceNeg, reduceCtorEq, or_false, false_or, decide_true, decide_false, Int.cast_ofNat_Int, Nat.zero_add, Nat.add_zero, Int.toNat_natCast, Option.isNone_none, Option.isNone_some, Bool.not_true, Bool.not_false, Bool.xor_true, Bool.xor_false, Bool.true_xor, Bool.false_xor, decide_true, decide_false, Bool.and_true, Bool.true_and, Bool.and_false, Bool.false_and, eq_self, ne_eq, not_false_eq_true, not_true_eq_false, true_and, and_true, and_self, d1, d3]
    refine fun ρ a w' hs hag => ?_
    obtain ⟨fp', h1, h2⟩ := tab_ends (T' := T) (S' := S) hS hfp hs hag rfl rfl (fun i _ => map_v _ _) (fun i _ => .inl ⟨rfl, rfl⟩)
    exact ⟨fp', by simp [SV.den, CV.den, writeE, d2], by simpa [writeT, d2] using h1, h2⟩
  obtain ⟨d2, k, rfl, hk1, hk⟩ := inS_of h1 h2
  have d1 : decide ((k : Int) < 1) = false := by simp [h1]
  have d3 : decide (8 < (k : Int)) = false := by simp [h2]
  have d4 : (0 : Int) ≤ k ∧ (k : Int) < 9 := by omega
  rcases hop : (T k).op with _ | ⟨sn, ws⟩
  · have hi : (T k).is = false := by simp [One.is, hop]
    have hrow := row_eq T S k
    refine tab_callsS hS hfp 50 _ Try.func25 rfl Try.ntmps25 Try.results25 [.c (.p 0 0 0), .c (.v (.int .i64 k)), .agg [.v (.string x.b), .v (.string x.k), .v (.string x.x), .v (.bool x.g)]] (by simp) (fun ρ h => by simp [SV.denL, SV.den, CV.den, CV.denL, h]) ?_
    simp only [go_sem, ↓reduceIte, Nat.reduceEqDiff, Nat.reduceLT, Nat.reduceLeDiff, Nat.reduceAdd, Nat.reduceMul, Nat.reduceSub, Nat.reduceDiv, Nat.reduceMod, Int.reduceToNat, Int.reduceLT, Int.reduceLE, Int.reduceAdd, Int.reduceSub, Int.reduceMul, Int.reduceEq, Int.reduceNeg, reduceCtorEq, or_false, false_or, decide_true, decide_false, Int.cast_ofNat_Int, Nat.zero_add, Nat.add_zero, Int.toNat_natCast, Option.isNone_none, Option.isNone_some, Bool.not_true, Bool.not_false, Bool.xor_true, Bool.xor_false, Bool.true_xor, Bool.false_xor, decide_true, decide_false, Bool.and_true, Bool.true_and, Bool.and_false, Bool.false_and, eq_self, ne_eq, not_false_eq_true, not_true_eq_false, true_and, and_true, and_self]
    refine scall_in 23 _ Try.func84 rfl Try.ntmps84 Try.results84 Try.call84 ?_
    simp only [go_sem, ↓reduceIte, Nat.reduceEqDiff, Nat.reduceLT, Nat.reduceLeDiff, Nat.reduceAdd, Nat.reduceMul, Nat.reduceSub, Nat.reduceDiv, Nat.reduceMod, Int.reduceToNat, Int.reduceLT, Int.reduceLE, Int.reduceAdd, Int.reduceSub, Int.reduceMul, Int.reduceEq, Int.reduceNeg, reduceCtorEq, or_false, false_or, decide_true, decide_false, Int.cast_ofNat_Int, Nat.zero_add, Nat.add_zero, Int.toNat_natCast, Option.isNone_none, Option.isNone_some, Bool.not_true, Bool.not_false, Bool.xor_true, Bool.xor_false, Bool.true_xor, Bool.false_xor, decide_true, decide_false, Bool.and_true, Bool.true_and, Bool.and_false, Bool.false_and, eq_self, ne_eq, not_false_eq_true, not_true_eq_false, true_and, and_true, and_self]
    refine scall_in 16 _ Try.func81 rfl Try.ntmps81 Try.results81 Try.call81 ?_
    simp only [go_sem, ↓reduceIte, Nat.reduceEqDiff, Nat.reduceLT, Nat.reduceLeDiff, Nat.reduceAdd, Nat.reduceMul, Nat.reduceSub, Nat.reduceDiv, Nat.reduceMod, Int.reduceToNat, Int.reduceLT, Int.reduceLE, Int.reduceAdd, Int.reduceSub, Int.reduceMul, Int.reduceEq, Int.reduceNeg, reduceCtorEq, or_false, false_or, decide_true, decide_false, Int.cast_ofNat_Int, Nat.zero_add, Nat.add_zero, Int.toNat_natCast, Option.isNone_none, Option.isNone_some, Bool.not_true, Bool.not_false, Bool.xor_true, Bool.xor_false, Bool.true_xor, Bool.false_xor, decide_true, decide_false, Bool.and_true, Bool.true_and, Bool.and_false, Bool.false_and, eq_self, ne_eq, not_false_eq_true, not_true_eq_false, true_and, and_true, and_self, d1, d3, d4, hrow, hk, hi]
    refine fun ρ a w' hs hag => ?_
    obtain ⟨fp', h1, h2⟩ := tab_ends (T' := T) (S' := S) hS hfp hs hag rfl rfl (fun i _ => map_v _ _) (fun i _ => .inl ⟨rfl, rfl⟩)
    exact ⟨fp', by simp [SV.den, CV.den, writeE, d2, hi], by simpa [writeT, d2, hi] using h1, h2⟩
  obtain ⟨hi, hsn, hws⟩ := One.op_of hop
  rcases hSk : S k with _ | ⟨bl, cc⟩
  · have hwr := hS.wr k hk
    rw [hSk, hws] at hwr
    have hw0 : ws = [] := hwr
    subst hw0
    have hsl : (T k).sl (S k) = .slice none 0 0 := by simp [One.sl, hop, hSk, slv]
    have hrow : ((T k).row (S k)).map CV.v = [cu (T k).seen.a, cu (T k).seen.b, cu (T k).seen.c, cu (T k).seen.d, .v (.bool true), cu sn.a, cu sn.b, cu sn.c, cu sn.d, .v (.slice none 0 0)] := by rw [row_eq, hsl, hsn, hi]
    refine tab_callsS hS hfp 50 _ Try.func25 rfl Try.ntmps25 Try.results25 [.c (.p 0 0 0), .c (.v (.int .i64 k)), .agg [.v (.string x.b), .v (.string x.k), .v (.string x.x), .v (.bool x.g)]] (by simp) (fun ρ h => by simp [SV.denL, SV.den, CV.den, CV.denL, h]) ?_
    simp only [go_sem, ↓reduceIte, Nat.reduceEqDiff, Nat.reduceLT, Nat.reduceLeDiff, Nat.reduceAdd, Nat.reduceMul, Nat.reduceSub, Nat.reduceDiv, Nat.reduceMod, Int.reduceToNat, Int.reduceLT, Int.reduceLE, Int.reduceAdd, Int.reduceSub, Int.reduceMul, Int.reduceEq, Int.reduceNeg, reduceCtorEq, or_false, false_or, decide_true, decide_false, Int.cast_ofNat_Int, Nat.zero_add, Nat.add_zero, Int.toNat_natCast, Option.isNone_none, Option.isNone_some, Bool.not_true, Bool.not_false, Bool.xor_true, Bool.xor_false, Bool.true_xor, Bool.false_xor, decide_true, decide_false, Bool.and_true, Bool.true_and, Bool.and_false, Bool.false_and, eq_self, ne_eq, not_false_eq_true, not_true_eq_false, true_and, and_true, and_self]
    refine scall_in 23 _ Try.func84 rfl Try.ntmps84 Try.results84 Try.call84 ?_
    simp only [go_sem, ↓reduceIte, Nat.reduceEqDiff, Nat.reduceLT, Nat.reduceLeDiff, Nat.reduceAdd, Nat.reduceMul, Nat.reduceSub, Nat.reduceDiv, Nat.reduceMod, Int.reduceToNat, Int.reduceLT, Int.reduceLE, Int.reduceAdd, Int.reduceSub, Int.reduceMul, Int.reduceEq, Int.reduceNeg, reduceCtorEq, or_false, false_or, decide_true, decide_false, Int.cast_ofNat_Int, Nat.zero_add, Nat.add_zero, Int.toNat_natCast, Option.isNone_none, Option.isNone_some, Bool.not_true, Bool.not_false, Bool.xor_true, Bool.xor_false, Bool.true_xor, Bool.false_xor, decide_true, decide_false, Bool.and_true, Bool.true_and, Bool.and_false, Bool.false_and, eq_self, ne_eq, not_false_eq_true, not_true_eq_false, true_and, and_true, and_self]
    refine scall_in 16 _ Try.func81 rfl Try.ntmps81 Try.results81 Try.call81 ?_
    simp only [go_sem, ↓reduceIte, Nat.reduceEqDiff, Nat.reduceLT, Nat.reduceLeDiff, Nat.reduceAdd, Nat.reduceMul, Nat.reduceSub, Nat.reduceDiv, Nat.reduceMod, Int.reduceToNat, Int.reduceLT, Int.reduceLE, Int.reduceAdd, Int.reduceSub, Int.reduceMul, Int.reduceEq, Int.reduceNeg, reduceCtorEq, or_false, false_or, decide_true, decide_false, Int.cast_ofNat_Int, Nat.zero_add, Nat.add_zero, Int.toNat_natCast, Option.isNone_none, Option.isNone_some, Bool.not_true, Bool.not_false, Bool.xor_true, Bool.xor_false, Bool.true_xor, Bool.false_xor, decide_true, decide_false, Bool.and_true, Bool.true_and, Bool.and_false, Bool.false_and, eq_self, ne_eq, not_false_eq_true, not_true_eq_false, true_and, and_true, and_self, d1, d3, d4, hrow, hk]
    refine scall_pure [x.v] (.c (.v (.bool x.right))) (.bool x.right) Try.call42 (wright_c x) rfl (fun _ => rfl) (fun _ => rfl) ?_
    cases hr : x.right
    · simp only [go_sem, ↓reduceIte, Nat.reduceEqDiff, Nat.reduceLT, Nat.reduceLeDiff, Nat.reduceAdd, Nat.reduceMul, Nat.reduceSub, Nat.reduceDiv, Nat.reduceMod, Int.reduceToNat, Int.reduceLT, Int.reduceLE, Int.reduceAdd, Int.reduceSub, Int.reduceMul, Int.reduceEq, Int.reduceNeg, reduceCtorEq, or_false, false_or, decide_true, decide_false, Int.cast_ofNat_Int, Nat.zero_add, Nat.add_zero, Int.toNat_natCast, Option.isNone_none, Option.isNone_some, Bool.not_true, Bool.not_false, Bool.xor_true, Bool.xor_false, Bool.true_xor, Bool.false_xor, decide_true, decide_false, Bool.and_true, Bool.true_and, Bool.and_false, Bool.false_and, eq_self, ne_eq, not_false_eq_true, not_true_eq_false, true_and, and_true, and_self]
      refine fun ρ a w' hs hag => ?_
      obtain ⟨fp', h1, h2⟩ := tab_ends (T' := T) (S' := S) hS hfp hs hag rfl rfl (fun i _ => map_v _ _) (fun i _ => .inl ⟨rfl, rfl⟩)
      exact ⟨fp', by simp [SV.den, CV.den, writeE, d2, hi, hr], by simpa [writeT, d2, hi, hr] using h1, h2⟩
    simp only [go_sem, ↓reduceIte, Nat.reduceEqDiff, Nat.reduceLT, Nat.reduceLeDiff, Nat.reduceAdd, Nat.reduceMul, Nat.reduceSub, Nat.reduceDiv, Nat.reduceMod, Int.reduceToNat, Int.reduceLT, Int.reduceLE, Int.reduceAdd, Int.reduceSub, Int.reduceMul, Int.reduceEq, Int.reduceNeg, reduceCtorEq, or_false, false_or, decide_true, decide_false, Int.cast_ofNat_Int, Nat.zero_add, Nat.add_zero, Int.toNat_natCast, Option.isNone_none, Option.isNone_some, Bool.not_true, Bool.not_false, Bool.xor_true, Bool.xor_false, Bool.true_xor, Bool.false_xor, decide_true, decide_false, Bool.and_true, Bool.true_and, Bool.and_false, Bool.false_and, eq_self, ne_eq, not_false_eq_true, not_true_eq_false, true_and, and_true, and_self]
    refine scall_keep (.c (.v (.int .i64 (-1)))) Try.call86 (fun ρ a w' hs => ?_) rfl (fun _ _ _ => rfl) ?_
    · obtain ⟨e1, e2, e3⟩ := tx_of0 hs rfl hk (sn := sn) hrow
      have := find_c e3 x.b x.k
      simpa [SV.denL, SV.den, CV.den, e1, e2, Nat.add_assoc, findI] using this
    simp only [go_sem, ↓reduceIte, Nat.reduceEqDiff, Nat.reduceLT, Nat.reduceLeDiff, Nat.reduceAdd, Nat.reduceMul, Nat.reduceSub, Nat.reduceDiv, Nat.reduceMod, Int.reduceToNat, Int.reduceLT, Int.reduceLE, Int.reduceAdd, Int.reduceSub, Int.reduceMul, Int.reduceEq, Int.reduceNeg, reduceCtorEq, or_false, false_or, decide_true, decide_false, Int.cast_ofNat_Int, Nat.zero_add, Nat.add_zero, Int.toNat_natCast, Option.isNone_none, Option.isNone_some, Bool.not_true, Bool.not_false, Bool.xor_true, Bool.xor_false, Bool.true_xor, Bool.false_xor, decide_true, decide_false, Bool.and_true, Bool.true_and, Bool.and_false, Bool.false_and, eq_self, ne_eq, not_false_eq_true, not_true_eq_false, true_and, and_true, and_self, hrow, hk]
    refine sdraw0 [.t 0, .t 1, .t 2, .t 3, .t 4, .t 5, .r 6, .r 7, .t 8, .t 9, .r 10] 10 rfl (by kernel_rfl) ?_
    simp only [go_sem, ↓reduceIte, Nat.reduceEqDiff, Nat.reduceLT, Nat.reduceLeDiff, Nat.reduceAdd, Nat.reduceMul, Nat.reduceSub, Nat.reduceDiv, Nat.reduceMod, Int.reduceToNat, Int.reduceLT, Int.reduceLE, Int.reduceAdd, Int.reduceSub, Int.reduceMul, Int.reduceEq, Int.reduceNeg, reduceCtorEq, or_false, false_or, decide_true, decide_false, Int.cast_ofNat_Int, Nat.zero_add, Nat.add_zero, Int.toNat_natCast, Option.isNone_none, Option.isNone_some, Bool.not_true, Bool.not_false, Bool.xor_true, Bool.xor_false, Bool.true_xor, Bool.false_xor, decide_true, decide_false, Bool.and_true, Bool.true_and, Bool.and_false, Bool.false_and, eq_self, ne_eq, not_false_eq_true, not_true_eq_false, true_and, and_true, and_self, hrow, hk]
    refine sappend_nil rfl rfl tkind58 tsz41 tby41 tz41 rfl ⟨⟨rfl, by decide, by decide⟩, by decide, by decide, by decide⟩ ?_
    refine ⟨(by show 30 < 50; decide), fun c' hc' => ?_⟩
    simp only [go_sem, ↓reduceIte, Nat.reduceEqDiff, Nat.reduceLT, Nat.reduceLeDiff, Nat.reduceAdd, Nat.reduceMul, Nat.reduceSub, Nat.reduceDiv, Nat.reduceMod, Int.reduceToNat, Int.reduceLT, Int.reduceLE, Int.reduceAdd, Int.reduceSub, Int.reduceMul, Int.reduceEq, Int.reduceNeg, reduceCtorEq, or_false, false_or, decide_true, decide_false, Int.cast_ofNat_Int, Nat.zero_add, Nat.add_zero, Int.toNat_natCast, Option.isNone_none, Option.isNone_some, Bool.not_true, Bool.not_false, Bool.xor_true, Bool.xor_false, Bool.true_xor, Bool.false_xor, decide_true, decide_false, Bool.and_true, Bool.true_and, Bool.and_false, Bool.false_and, eq_self, ne_eq, not_false_eq_true, not_true_eq_false, true_and, and_true, and_self, hrow, hk]
    refine fun ρ a w' hs hag => ?_
    obtain ⟨fp', h1, h2⟩ := txn_ends (sn := sn) (ws' := [x]) hS hfp hk hs (by rw [hag 0 (show 0 < 2 by omega)]) 4 c' (by decide) rfl rfl 1 (by decide) (by decide) rfl
      (fun y hy => by obtain ⟨i, c, hi, h⟩ := mem_restf.1 hy; exact mem_restf.2 ⟨i, c, List.mem_range.2 (mem_others.1 hi).1, h⟩) (fun w hw i hi => hw i (List.mem_range.2 (mem_others.1 hi).1))
      (fun i hi hik => by simp only [rupd, hik, if_false]; exact map_v _ _)
      (by simp [rupd, One.row, One.sl, One.is, One.sn, slv, CV.den, (hs.now.hp _ _ (mem_hget (n := 4) rfl)).1])
      (fun j hj => by
        have : j = 0 := by simpa using hj
        subst this; rfl) ⟨by simp, by simpa using hc', by simp⟩
    exact ⟨fp', by simp [SV.den, CV.den, writeE, d2, hi, hr, hws, fits], by simpa [writeT, d2, hi, hr, hws, fits, putW, hsn] using h1, h2⟩
  · have hwr := hS.wr k hk
    rw [hSk, hws] at hwr
    have hrow := rk_same T S k 1 ws.length cc
    refine txn_calls hS hfp hk hSk hop 50 _ Try.func25 rfl Try.ntmps25 Try.results25 [.c (.p 0 0 0), .c (.v (.int .i64 k)), .agg [.v (.string x.b), .v (.string x.k), .v (.string x.x), .v (.bool x.g)]] (by simp) (fun ρ h => by simp [SV.denL, SV.den, CV.den, CV.denL, h]) ?_
    simp only [go_sem, ↓reduceIte, Nat.reduceEqDiff, Nat.reduceLT, Nat.reduceLeDiff, Nat.reduceAdd, Nat.reduceMul, Nat.reduceSub, Nat.reduceDiv, Nat.reduceMod, Int.reduceToNat, Int.reduceLT, Int.reduceLE, Int.reduceAdd, Int.reduceSub, Int.reduceMul, Int.reduceEq, Int.reduceNeg, reduceCtorEq, or_false, false_or, decide_true, decide_false, Int.cast_ofNat_Int, Nat.zero_add, Nat.add_zero, Int.toNat_natCast, Option.isNone_none, Option.isNone_some, Bool.not_true, Bool.not_false, Bool.xor_true, Bool.xor_false, Bool.true_xor, Bool.false_xor, decide_true, decide_false, Bool.and_true, Bool.true_and, Bool.and_false, Bool.false_and, eq_self, ne_eq, not_false_eq_true, not_true_eq_false, true_and, and_true, and_self]
    refine scall_in 23 _ Try.func84 rfl Try.ntmps84 Try.results84 Try.call84 ?_
    simp only [go_sem, ↓reduceIte, Nat.reduceEqDiff, Nat.reduceLT, Nat.reduceLeDiff, Nat.reduceAdd, Nat.reduceMul, Nat.reduceSub, Nat.reduceDiv, Nat.reduceMod, Int.reduceToNat, Int.reduceLT, Int.reduceLE, Int.reduceAdd, Int.reduceSub, Int.reduceMul, Int.reduceEq, Int.reduceNeg, reduceCtorEq, or_false, false_or, decide_true, decide_false, Int.cast_ofNat_Int, Nat.zero_add, Nat.add_zero, Int.toNat_natCast, Option.isNone_none, Option.isNone_some, Bool.not_true, Bool.not_false, Bool.xor_true, Bool.xor_false, Bool.true_xor, Bool.false_xor, decide_true, decide_false, Bool.and_true, Bool.true_and, Bool.and_false, Bool.false_and, eq_self, ne_eq, not_false_eq_true, not_true_eq_false, true_and, and_true, and_self]
    refine scall_in 16 _ Try.func81 rfl Try.ntmps81 Try.results81 Try.call81 ?_
    simp only [go_sem, ↓reduceIte, Nat.reduceEqDiff, Nat.reduceLT, Nat.reduceLeDiff, Nat.reduceAdd, Nat.reduceMul, Nat.reduceSub, Nat.reduceDiv, Nat.reduceMod, Int.reduceToNat, Int.reduceLT, Int.reduceLE, Int.reduceAdd, Int.reduceSub, Int.reduceMul, Int.reduceEq, Int.reduceNeg, reduceCtorEq, or_false, false_or, decide_true, decide_false, Int.cast_ofNat_Int, Nat.zero_add, Nat.add_zero, Int.toNat_natCast, Option.isNone_none, Option.isNone_some, Bool.not_true, Bool.not_false, Bool.xor_true, Bool.xor_false, Bool.true_xor, Bool.false_xor, decide_true, decide_false, Bool.and_true, Bool.true_and, Bool.and_false, Bool.false_and, eq_self, ne_eq, not_false_eq_true, not_true_eq_false, true_and, and_true, and_self, d1, d3, d4, hrow, hk, hi]
    refine scall_pure [x.v] (.c (.v (.bool x.right))) (.bool x.right) Try.call42 (wright_c x) rfl (fun _ => rfl) (fun _ => rfl) ?_
    cases hr : x.right
    · simp only [go_sem, ↓reduceIte, Nat.reduceEqDiff, Nat.reduceLT, Nat.reduceLeDiff, Nat.reduceAdd, Nat.reduceMul, Nat.reduceSub, Nat.reduceDiv, Nat.reduceMod, Int.reduceToNat, Int.reduceLT, Int.reduceLE, Int.reduceAdd, Int.reduceSub, Int.reduceMul, Int.reduceEq, Int.reduceNeg, reduceCtorEq, or_false, false_or, decide_true, decide_false, Int.cast_ofNat_Int, Nat.zero_add, Nat.add_zero, Int.toNat_natCast, Option.isNone_none, Option.isNone_some, Bool.not_true, Bool.not_false, Bool.xor_true, Bool.xor_false, Bool.true_xor, Bool.false_xor, decide_true, decide_false, Bool.and_true, Bool.true_and, Bool.and_false, Bool.false_and, eq_self, ne_eq, not_false_eq_true, not_true_eq_false, true_and, and_true, and_self]
      refine fun ρ a w' hs hag => ?_
      obtain ⟨fp', h1, h2⟩ := txn_ends (sn := sn) (ws' := ws) hS hfp hk hs (by rw [hag 0 (show 0 < 3 by omega)]; rfl) 1 cc (by decide) rfl rfl 2 (by decide) (by decide) rfl (fun _ h => h) (fun _ h => h) (fun i hi hik => by simp only [rk, hik, if_false]; exact map_v _ _)
        (by simp [rk, One.row, One.sl, One.is, One.sn, hop, slv, CV.den, (hs.now.hp _ _ (mem_hget (n := 1) rfl)).1]) (fun j _ => map_v _ _) hwr.1
      rw [upd_self hop] at h1
      exact ⟨fp', by simp [SV.den, CV.den, writeE, d2, hi, hr], by simpa [writeT, d2, hi, hr] using h1, h2⟩
    simp only [go_sem, ↓reduceIte, Nat.reduceEqDiff, Nat.reduceLT, Nat.reduceLeDiff, Nat.reduceAdd, Nat.reduceMul, Nat.reduceSub, Nat.reduceDiv, Nat.reduceMod, Int.reduceToNat, Int.reduceLT, Int.reduceLE, Int.reduceAdd, Int.reduceSub, Int.reduceMul, Int.reduceEq, Int.reduceNeg, reduceCtorEq, or_false, false_or, decide_true, decide_false, Int.cast_ofNat_Int, Nat.zero_add, Nat.add_zero, Int.toNat_natCast, Option.isNone_none, Option.isNone_some, Bool.not_true, Bool.not_false, Bool.xor_true, Bool.xor_false, Bool.true_xor, Bool.false_xor, decide_true, decide_false, Bool.and_true, Bool.true_and, Bool.and_false, Bool.false_and, eq_self, ne_eq, not_false_eq_true, not_true_eq_false, true_and, and_true, and_self]
    refine scall_keep (.c (.v (.int .i64 (findI ws x.b x.k)))) Try.call86 (fun ρ a w' hs => ?_) rfl (fun _ _ _ => rfl) ?_
    · obtain ⟨e1, e2, e3⟩ := tx_of hs rfl rfl hk (sn := sn) (by rw [rk_same, hsn]) (fun j _ => map_v _ _) hwr.1
      have := find_c e3 x.b x.k
      simpa [SV.denL, SV.den, CV.den, e1, e2, Nat.add_assoc] using this
    rcases hfi : ws.findIdx? (hit x.b x.k) with _ | i
    · have e1 : findI ws x.b x.k = -1 := by simp [findI, hfi]
      cases d5 : decide ((8 : Int) ≤ ws.length)
      · have hf : ws.length < 8 := by simp at d5; omega
        simp only [go_sem, ↓reduceIte, Nat.reduceEqDiff, Nat.reduceLT, Nat.reduceLeDiff, Nat.reduceAdd, Nat.reduceMul, Nat.reduceSub, Nat.reduceDiv, Nat.reduceMod, Int.reduceToNat, Int.reduceLT, Int.reduceLE, Int.reduceAdd, Int.reduceSub, Int.reduceMul, Int.reduceEq, Int.reduceNeg, reduceCtorEq, or_false, false_or, decide_true, decide_false, Int.cast_ofNat_Int, Nat.zero_add, Nat.add_zero, Int.toNat_natCast, Option.isNone_none, Option.isNone_some, Bool.not_true, Bool.not_false, Bool.xor_true, Bool.xor_false, Bool.true_xor, Bool.false_xor, decide_true, decide_false, Bool.and_true, Bool.true_and, Bool.and_false, Bool.false_and, eq_self, ne_eq, not_false_eq_true, not_true_eq_false, true_and, and_true, and_self, e1, d5, hrow, hk]
        refine sdraw [.t 0, .t 1, .t 2, .t 3, .t 4, .t 5, .r 6, .r 7, .t 8, .t 9, .r 10] 10 [(3, .cells 41 [.v (.string x.b), .v (.string x.k), .v (.string x.x), .v (.bool x.g)]), (0, .rows 162 10 9 9 (rk T S k 1 ws.length cc)), (2, .pred (restf (others k) S) (Wrs (others k) T S))] rfl (by kernel_rfl) ⟨rfl, rfl, rfl, trivial⟩ ?_
        simp only [go_sem, ↓reduceIte, Nat.reduceEqDiff, Nat.reduceLT, Nat.reduceLeDiff, Nat.reduceAdd, Nat.reduceMul, Nat.reduceSub, Nat.reduceDiv, Nat.reduceMod, Int.reduceToNat, Int.reduceLT, Int.reduceLE, Int.reduceAdd, Int.reduceSub, Int.reduceMul, Int.reduceEq, Int.reduceNeg, reduceCtorEq, or_false, false_or, decide_true, decide_false, Int.cast_ofNat_Int, Nat.zero_add, Nat.add_zero, Int.toNat_natCast, Option.isNone_none, Option.isNone_some, Bool.not_true, Bool.not_false, Bool.xor_true, Bool.xor_false, Bool.true_xor, Bool.false_xor, decide_true, decide_false, Bool.and_true, Bool.true_and, Bool.and_false, Bool.false_and, eq_self, ne_eq, not_false_eq_true, not_true_eq_false, true_and, and_true, and_self, hrow, hk]
        refine sappend rfl rfl tkind58 tsz41 tby41 tz41 rfl rfl ⟨⟨rfl, by decide, by decide, Nat.le_refl _⟩, by decide, by omega, by omega⟩ (fun i hi => by
          have : i = 0 := by omega
          subst this; rfl) ?_
        refine ⟨(by show 30 < 50; decide), fun c' hc' => ?_⟩
        simp only [go_sem, ↓reduceIte, Nat.reduceEqDiff, Nat.reduceLT, Nat.reduceLeDiff, Nat.reduceAdd, Nat.reduceMul, Nat.reduceSub, Nat.reduceDiv, Nat.reduceMod, Int.reduceToNat, Int.reduceLT, Int.reduceLE, Int.reduceAdd, Int.reduceSub, Int.reduceMul, Int.reduceEq, Int.reduceNeg, reduceCtorEq, or_false, false_or, decide_true, decide_false, Int.cast_ofNat_Int, Nat.zero_add, Nat.add_zero, Int.toNat_natCast, Option.isNone_none, Option.isNone_some, Bool.not_true, Bool.not_false, Bool.xor_true, Bool.xor_false, Bool.true_xor, Bool.false_xor, decide_true, decide_false, Bool.and_true, Bool.true_and, Bool.and_false, Bool.false_and, eq_self, ne_eq, not_false_eq_true, not_true_eq_false, true_and, and_true, and_self, hrow, hk]
        refine fun ρ a w' hs hag => ?_
        obtain ⟨fp', h1, h2⟩ := txn_ends (sn := sn) (ws' := ws ++ [x]) hS hfp hk hs (by rw [hag 0 (show 0 < 3 by omega)]; rfl) 5 c' (by decide) rfl (by rw [List.length_append]; rfl) 2 (by decide) (by decide) rfl (fun _ h => h) (fun _ h => h)
          (fun i hi hik => by simp only [rupd, rk, hik, if_false]; exact map_v _ _)
          (by simp [rupd, One.row, One.sl, One.is, One.sn, hop, slv, CV.den, (hs.now.hp _ _ (mem_hget (n := 5) rfl)).1]) (fun j hj => by
            by_cases hjl : j < ws.length
            · simp only [rapp, hjl, if_true, wrow, List.getElem?_append_left hjl]; exact map_v _ _
            · have hjl2 : j = ws.length := by simp at hj; omega
              subst hjl2
              simp [rapp, wrow, rowsOf, Wr.l, CV.den]) (by simp only [List.length_append, List.length_singleton]; exact ⟨by omega, hc', by omega⟩)
        exact ⟨fp', by simp [SV.den, CV.den, writeE, d2, hi, hr, hws, fits, hfi, hf], by simpa [writeT, d2, hi, hr, hws, fits, hfi, hf, putW, hsn] using h1, h2⟩
      · have hf : ¬ ws.length < 8 := by simp at d5; omega
        simp only [go_sem, ↓reduceIte, Nat.reduceEqDiff, Nat.reduceLT, Nat.reduceLeDiff, Nat.reduceAdd, Nat.reduceMul, Nat.reduceSub, Nat.reduceDiv, Nat.reduceMod, Int.reduceToNat, Int.reduceLT, Int.reduceLE, Int.reduceAdd, Int.reduceSub, Int.reduceMul, Int.reduceEq, Int.reduceNeg, reduceCtorEq, or_false, false_or, decide_true, decide_false, Int.cast_ofNat_Int, Nat.zero_add, Nat.add_zero, Int.toNat_natCast, Option.isNone_none, Option.isNone_some, Bool.not_true, Bool.not_false, Bool.xor_true, Bool.xor_false, Bool.true_xor, Bool.false_xor, decide_true, decide_false, Bool.and_true, Bool.true_and, Bool.and_false, Bool.false_and, eq_self, ne_eq, not_false_eq_true, not_true_eq_false, true_and, and_true, and_self, e1, d5, hrow, hk]
        refine fun ρ a w' hs hag => ?_
        obtain ⟨fp', h1, h2⟩ := txn_ends (sn := sn) (ws' := ws) hS hfp hk hs (by rw [hag 0 (show 0 < 3 by omega)]; rfl) 1 cc (by decide) rfl rfl 2 (by decide) (by decide) rfl (fun _ h => h) (fun _ h => h) (fun i hi hik => by simp only [rk, hik, if_false]; exact map_v _ _)
          (by simp [rk, One.row, One.sl, One.is, One.sn, hop, slv, CV.den, (hs.now.hp _ _ (mem_hget (n := 1) rfl)).1]) (fun j _ => map_v _ _) hwr.1
        rw [upd_self hop] at h1
        exact ⟨fp', by simp [SV.den, CV.den, writeE, d2, hi, hr, hws, fits, hfi, hf], by simpa [writeT, d2, hi, hr, hws, fits, hfi, hf] using h1, h2⟩
    · have hil : i < ws.length := (List.findIdx?_eq_some_iff_getElem.1 hfi).1
      have e1 : findI ws x.b x.k = i := by simp [findI, hfi]
      have d5 : decide ((0 : Int) ≤ i) = true := by simp
      have d6 : (0 : Int) ≤ i ∧ (i : Int) < ws.length := by omega
      simp only [go_sem, ↓reduceIte, Nat.reduceEqDiff, Nat.reduceLT, Nat.reduceLeDiff, Nat.reduceAdd, Nat.reduceMul, Nat.reduceSub, Nat.reduceDiv, Nat.reduceMod, Int.reduceToNat, Int.reduceLT, Int.reduceLE, Int.reduceAdd, Int.reduceSub, Int.reduceMul, Int.reduceEq, Int.reduceNeg, reduceCtorEq, or_false, false_or, decide_true, decide_false, Int.cast_ofNat_Int, Nat.zero_add, Nat.add_zero, Int.toNat_natCast, Option.isNone_none, Option.isNone_some, Bool.not_true, Bool.not_false, Bool.xor_true, Bool.xor_false, Bool.true_xor, Bool.false_xor, decide_true, decide_false, Bool.and_true, Bool.true_and, Bool.and_false, Bool.false_and, eq_self, ne_eq, not_false_eq_true, not_true_eq_false, true_and, and_true, and_self, e1, d5, hrow, hk]
      refine sdraw0 [.t 0, .t 1, .t 2, .t 3, .t 4, .t 5, .t 6, .r 7] 7 rfl (by kernel_rfl) ?_
      have hr2 := wrow_eq (List.getElem?_eq_getElem hil)
      simp only [go_sem, ↓reduceIte, Nat.reduceEqDiff, Nat.reduceLT, Nat.reduceLeDiff, Nat.reduceAdd, Nat.reduceMul, Nat.reduceSub, Nat.reduceDiv, Nat.reduceMod, Int.reduceToNat, Int.reduceLT, Int.reduceLE, Int.reduceAdd, Int.reduceSub, Int.reduceMul, Int.reduceEq, Int.reduceNeg, reduceCtorEq, or_false, false_or, decide_true, decide_false, Int.cast_ofNat_Int, Nat.zero_add, Nat.add_zero, Int.toNat_natCast, Option.isNone_none, Option.isNone_some, Bool.not_true, Bool.not_false, Bool.xor_true, Bool.xor_false, Bool.true_xor, Bool.false_xor, decide_true, decide_false, Bool.and_true, Bool.true_and, Bool.and_false, Bool.false_and, eq_self, ne_eq, not_false_eq_true, not_true_eq_false, true_and, and_true, and_self, hrow, hk, d6, hil, hr2]
      refine fun ρ a w' hs hag => ?_
      obtain ⟨fp', h1, h2⟩ := txn_ends (sn := sn) (ws' := ws.set i x) hS hfp hk hs (by rw [hag 0 (show 0 < 3 by omega)]; rfl) 1 cc (by decide) rfl (by rw [List.length_set]; rfl) 2 (by decide) (by decide) rfl (fun _ h => h) (fun _ h => h) (fun i hi hik => by simp only [rk, hik, if_false]; exact map_v _ _)
        (by simp [rk, One.row, One.sl, One.is, One.sn, hop, slv, CV.den, (hs.now.hp _ _ (mem_hget (n := 1) rfl)).1]) (fun j hj => by
          by_cases hji : j = i
          · subst hji; simp [rupd, wrow, hil, Wr.l, CV.den]
          · simp only [rupd, hji, if_false, wrow, List.getElem?_set_ne (Ne.symm hji)]; exact map_v _ _) (by rw [List.length_set]; exact hwr.1)
      exact ⟨fp', by simp [SV.den, CV.den, writeE, d2, hi, hr, hws, fits, hfi], by simpa [writeT, d2, hi, hr, hws, fits, hfi, putW, hsn] using h1, h2⟩
end Go.Proofs.Ytfokingbglkmjaa
