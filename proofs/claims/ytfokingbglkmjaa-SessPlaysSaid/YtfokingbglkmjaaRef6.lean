/-
  The document's own table: Own, Horizon, Many. Conditions: none.
-/
import Derived.Test.YtfokingbglkmjaaRef5
namespace Go.Proofs.Ytfokingbglkmjaa
open Go.RowKit Go.Sx
set_option linter.unusedVariables false
set_option linter.unusedSimpArgs false

theorem rows_imm {w : World} {g ty e m c : Nat} {r : Nat → List Value} (h : RowsAt w g ty e m c r) {ρ : Env} {n : Nat} {C : Cx} (hC : C.w0 = w ∧ ∀ k, ¬ C.M k) (hρ : ρ n = ⟨g, 0, e⟩) {r' : Nat → List CV} (hr : ∀ i, i < m → (r' i).map (CV.den ρ) = r i) : Blk.holds C ρ n w (.imm e m r') := by
  obtain ⟨arr, h1, h2, h3⟩ := h
  refine ⟨by rw [hρ], fun i hi => ?_, fun _ => by rw [hρ]; exact ⟨by rw [hC.1]; exact (Array.getElem?_eq_some_iff.1 h1).1, hC.2 _⟩⟩
  obtain ⟨h4, h5⟩ := h3 i hi
  refine ⟨by rw [← List.length_map (CV.den ρ), hr i hi]; exact h4, fun q hq => ?_⟩
  rw [← List.getElem?_map, hr i hi, hρ]
  simp only [World.cell?, h1, Nat.zero_add]
  rw [← h5 q hq]; simp
/-- The rows; session k's writes are in block 'm'. -/
def rrk (U : Nat → RO) (S : Nat → Option (Nat × Nat)) (k m n c i : Nat) : List CV :=
  if i = k then [cu (U k).seen.a, cu (U k).seen.b, cu (U k).seen.c, cu (U k).seen.d, .v (.bool (U k).op), cu (U k).sn.a, cu (U k).sn.b, cu (U k).sn.c, cu (U k).sn.d, .s m 0 n c] else ((U i).row (S i)).map .v
theorem rrk_same (U : Nat → RO) (S : Nat → Option (Nat × Nat)) (k m n c : Nat) : rrk U S k m n c k = [cu (U k).seen.a, cu (U k).seen.b, cu (U k).seen.c, cu (U k).seen.d, .v (.bool (U k).op), cu (U k).sn.a, cu (U k).sn.b, cu (U k).sn.c, cu (U k).sn.d, .s m 0 n c] := by simp [rrk]
theorem rrd_calls {f : FuncId} {fn : Func} {c : Code} {args : Array Value} {w : World} {R : Ending → World → Prop} {g : Nat} {T : Nat → RO} {S : Nat → Option (Nat × Nat)} (hS : RTab g T S w) (n : Nat) (rs : List ResultVar) (hf : Try.prog.funcs[f]? = some fn) (hb : fn.body = some c) (hn : fn.ntmps = n) (hr : fn.results = rs.toArray)
    (xs : List SV) (hl : xs.length ≤ n) (ha : ∀ ρ' : Env, ρ' 0 = ⟨g, 0, 10⟩ → args.toList = SV.denL ρ' xs)
    (h : X Try.prog ⟨w, fun _ => False, n, 1, fun _ => ⟨g, 0, 10⟩⟩ c (retQ Try.prog ⟨w, fun _ => False, n, 1, fun _ => ⟨g, 0, 10⟩⟩ rs R) ⟨frOf 0 xs, [(0, .imm 10 9 fun i => ((T i).row (S i)).map .v)], 1⟩) : Calls Try.prog f args w R := by
  refine calls_of (fun _ => False) n rs hf hb hn hr xs _ 1 (fun _ => ⟨g, 0, 10⟩) hl (fun ρ' hρ => ha ρ' (hρ 0 (by omega))) (fun ρ' hρ => ⟨fun m b hm => ?_, ?_⟩) (fun m b hm => ?_) (by simp) h
  · simp only [List.mem_cons, Prod.mk.injEq, List.not_mem_nil, or_false] at hm
    obtain ⟨rfl, rfl⟩ := hm
    exact rows_imm hS.row ⟨rfl, fun _ h => h⟩ (hρ 0 (by omega)) fun i _ => map_v _ _
  · simp [footL, Blk.foot]
  · simp only [List.mem_cons, Prod.mk.injEq, List.not_mem_nil, or_false] at hm
    omega
theorem rrd_calls1 {f : FuncId} {fn : Func} {c : Code} {args : Array Value} {w : World} {R : Ending → World → Prop} {g : Nat} {T : Nat → RO} {S : Nat → Option (Nat × Nat)} {k b cc : Nat} (hS : RTab g T S w) (hk : k < 9) (hSk : S k = some (b, cc)) (n : Nat) (rs : List ResultVar) (hf : Try.prog.funcs[f]? = some fn) (hb : fn.body = some c) (hn : fn.ntmps = n) (hr : fn.results = rs.toArray)
    (xs : List SV) (hl : xs.length ≤ n) (ha : ∀ ρ' : Env, ρ' 0 = ⟨g, 0, 10⟩ → args.toList = SV.denL ρ' xs)
    (h : X Try.prog ⟨w, fun _ => False, n, 2, fun m => if m = 1 then ⟨b, 0, 4⟩ else ⟨g, 0, 10⟩⟩ c (retQ Try.prog ⟨w, fun _ => False, n, 2, fun m => if m = 1 then ⟨b, 0, 4⟩ else ⟨g, 0, 10⟩⟩ rs R) ⟨frOf 0 xs, [(0, .imm 10 9 (rrk T S k 1 (T k).ws.length cc)), (1, .imm 4 (T k).ws.length fun j => (wrow (T k).ws j).map .v)], 2⟩) : Calls Try.prog f args w R := by
  have hwr := hS.wr k hk
  rw [hSk] at hwr
  refine calls_of (fun _ => False) n rs hf hb hn hr xs _ 2 (fun m => if m = 1 then ⟨b, 0, 4⟩ else ⟨g, 0, 10⟩) hl (fun ρ' hρ => ha ρ' (hρ 0 (by omega))) (fun ρ' hρ => ⟨fun m b' hm => ?_, ?_⟩) (fun m b' hm => ?_) (by simp) h
  · have r0 := hρ 0 (by omega)
    have r1 := hρ 1 (by omega)
    simp only [Nat.zero_ne_one, if_true, if_false] at r0 r1
    simp only [List.mem_cons, Prod.mk.injEq, List.not_mem_nil, or_false] at hm
    rcases hm with ⟨rfl, rfl⟩ | ⟨rfl, rfl⟩
    · refine rows_imm hS.row ⟨rfl, fun _ h => h⟩ r0 fun i _ => ?_
      unfold rrk
      split
      · rename_i e; subst e
        simp [RO.row, hSk, slv, CV.den, r1]
      · exact map_v _ _
    · exact rows_imm hwr.2 ⟨rfl, fun _ h => h⟩ r1 fun i _ => map_v _ _
  · simp [footL, Blk.foot]
  · simp only [List.mem_cons, Prod.mk.injEq, List.not_mem_nil, or_false] at hm
    omega

/-- What only reads keeps the table. -/
theorem RTab.keep {g : Nat} {U : Nat → RO} {S : Nat → Option (Nat × Nat)} {w w' : World} (h : RTab g U S w) (hb : Below w.heap.size w w') : RTab g U S w' ∧ Chg (fpR g S) (fpR g S) w w' :=
  have ht : RTab g U S w' := RTab.stable w w' h fun k hk => hb.block k (h.lt k hk)
  ⟨ht, ⟨⟨hb.os, hb.tape, hb.output, hb.size, fun k hk _ => hb.block k hk⟩, fun k hk => ⟨.inl hk, ht.lt k hk⟩, RTab.fpNodup (T := U) h.dis⟩⟩

def rownW (U : Nat → RO) (id : Int) (b k : ByteArray) : Option Wr := (rWs U id).find? (hit b k)
theorem find_drop {ws : List Wr} {b k : ByteArray} {i : Nat} {x : Wr} (h : ws[i]? = some x) : (ws.drop i).find? (hit b k) = if hit b k x then some x else (ws.drop (i + 1)).find? (hit b k) := by
  obtain ⟨hi, he⟩ := List.getElem?_eq_some_iff.1 h
  rw [List.drop_eq_getElem_cons hi, List.find?_cons, he]
  cases hit b k x <;> rfl
set_option maxRecDepth 100000 in
theorem rown_c (g : Nat) (U : Nat → RO) (S : Nat → Option (Nat × Nat)) (id : Int) (b k : ByteArray) (w : World) (ht : RTab g U S w) :
    Calls Try.prog 31 #[ptr g, .int .i64 id, .string b, .string k] w (RKeep g U S (.tuple #[((rownW U id b k).getD zw).v, .bool (rownW U id b k).isSome]) w) := by
  suffices Calls Try.prog 31 #[ptr g, .int .i64 id, .string b, .string k] w fun e w' => e = .returned (.tuple #[((rownW U id b k).getD zw).v, .bool (rownW U id b k).isSome]) ∧ Below w.heap.size w w' from
    this.mono fun e w' ⟨h1, h2⟩ => ⟨h1, ht.keep h2⟩
  by_cases hop : inS id && (U id.toNat).op
  case neg =>
    refine rrd_calls ht 42 _ Try.func31 rfl Try.ntmps31 Try.results31 [.c (.p 0 0 0), .c (.v (.int .i64 id)), .c (.v (.string b)), .c (.v (.string k))] (by simp) (fun ρ h => by simp [SV.denL, SV.den, CV.den, CV.denL, h]) ?_
    have hr : rownW U id b k = none := by unfold rownW rWs; rw [if_neg hop]; rfl
    rw [hr]
    simp only [go_sem, ↓reduceIte, Nat.reduceEqDiff, Nat.reduceLT, Nat.reduceLeDiff, Nat.reduceAdd, Nat.reduceMul, Nat.reduceSub, Nat.reduceDiv, Nat.reduceMod, Int.reduceToNat, Int.reduceLT, Int.reduceLE, Int.reduceAdd, Int.reduceSub, Int.reduceMul, Int.reduceEq, Int.reduceNeg, reduceCtorEq, or_false, false_or, decide_true, decide_false, Int.cast_ofNat_Int, Nat.zero_add, Nat.add_zero, Int.toNat_natCast, Option.isNone_none, Option.isNone_some, Bool.not_true, Bool.not_false, Bool.xor_true, Bool.xor_false, Bool.true_xor, Bool.false_xor, decide_true, decide_false, Bool.and_true, Bool.true_and, Bool.and_false, Bool.false_and, eq_self, ne_eq, not_false_eq_true, not_true_eq_false, true_and, and_true, and_self]
    refine scall_in 25 _ Try.func33 rfl Try.ntmps33 Try.results33 Try.call33 ?_
    simp only [go_sem, ↓reduceIte, Nat.reduceEqDiff, Nat.reduceLT, Nat.reduceLeDiff, Nat.reduceAdd, Nat.reduceMul, Nat.reduceSub, Nat.reduceDiv, Nat.reduceMod, Int.reduceToNat, Int.reduceLT, Int.reduceLE, Int.reduceAdd, Int.reduceSub, Int.reduceMul, Int.reduceEq, Int.reduceNeg, reduceCtorEq, or_false, false_or, decide_true, decide_false, Int.cast_ofNat_Int, Nat.zero_add, Nat.add_zero, Int.toNat_natCast, Option.isNone_none, Option.isNone_some, Bool.not_true, Bool.not_false, Bool.xor_true, Bool.xor_false, Bool.true_xor, Bool.false_xor, decide_true, decide_false, Bool.and_true, Bool.true_and, Bool.and_false, Bool.false_and, eq_self, ne_eq, not_false_eq_true, not_true_eq_false, true_and, and_true, and_self]
    refine ris_s ?_
    cases hin : inS id
    · simp only [go_sem, ↓reduceIte, Nat.reduceEqDiff, Nat.reduceLT, Nat.reduceLeDiff, Nat.reduceAdd, Nat.reduceMul, Nat.reduceSub, Nat.reduceDiv, Nat.reduceMod, Int.reduceToNat, Int.reduceLT, Int.reduceLE, Int.reduceAdd, Int.reduceSub, Int.reduceMul, Int.reduceEq, Int.reduceNeg, reduceCtorEq, or_false, false_or, decide_true, decide_false, Int.cast_ofNat_Int, Nat.zero_add, Nat.add_zero, Int.toNat_natCast, Option.isNone_none, Option.isNone_some, Bool.not_true, Bool.not_false, Bool.xor_true, Bool.xor_false, Bool.true_xor, Bool.false_xor, decide_true, decide_false, Bool.and_true, Bool.true_and, Bool.and_false, Bool.false_and, eq_self, ne_eq, not_false_eq_true, not_true_eq_false, true_and, and_true, and_self]
      refine sloop_rounds 1 ?_
      simp only [go_sem, ↓reduceIte, Nat.reduceEqDiff, Nat.reduceLT, Nat.reduceLeDiff, Nat.reduceAdd, Nat.reduceMul, Nat.reduceSub, Nat.reduceDiv, Nat.reduceMod, Int.reduceToNat, Int.reduceLT, Int.reduceLE, Int.reduceAdd, Int.reduceSub, Int.reduceMul, Int.reduceEq, Int.reduceNeg, reduceCtorEq, or_false, false_or, decide_true, decide_false, Int.cast_ofNat_Int, Nat.zero_add, Nat.add_zero, Int.toNat_natCast, Option.isNone_none, Option.isNone_some, Bool.not_true, Bool.not_false, Bool.xor_true, Bool.xor_false, Bool.true_xor, Bool.false_xor, decide_true, decide_false, Bool.and_true, Bool.true_and, Bool.and_false, Bool.false_and, eq_self, ne_eq, not_false_eq_true, not_true_eq_false, true_and, and_true, and_self]
      exact fun ρ a w hs _ => ⟨rfl, hs.grown⟩
    obtain ⟨j, rfl, hk1, hk⟩ := inS_k hin
    have hrow := rrow_eq U S j
    have ho : (U j).op = false := by simpa [hin] using hop
    simp (disch := omega) only [go_sem, ↓reduceIte, Nat.reduceEqDiff, Nat.reduceLT, Nat.reduceLeDiff, Nat.reduceAdd, Nat.reduceMul, Nat.reduceSub, Nat.reduceDiv, Nat.reduceMod, Int.reduceToNat, Int.reduceLT, Int.reduceLE, Int.reduceAdd, Int.reduceSub, Int.reduceMul, Int.reduceEq, Int.reduceNeg, reduceCtorEq, or_false, false_or, decide_true, decide_false, Int.cast_ofNat_Int, Nat.zero_add, Nat.add_zero, Int.toNat_natCast, Option.isNone_none, Option.isNone_some, Bool.not_true, Bool.not_false, Bool.xor_true, Bool.xor_false, Bool.true_xor, Bool.false_xor, decide_true, decide_false, Bool.and_true, Bool.true_and, Bool.and_false, Bool.false_and, eq_self, ne_eq, not_false_eq_true, not_true_eq_false, true_and, and_true, and_self, wrapI64, wrapu64, wrapu32, wrapu8, ltT, ltF, leT, leF, eqF, eqT, nltT, nleT, hrow, ho]
    refine sloop_rounds 1 ?_
    simp only [go_sem, ↓reduceIte, Nat.reduceEqDiff, Nat.reduceLT, Nat.reduceLeDiff, Nat.reduceAdd, Nat.reduceMul, Nat.reduceSub, Nat.reduceDiv, Nat.reduceMod, Int.reduceToNat, Int.reduceLT, Int.reduceLE, Int.reduceAdd, Int.reduceSub, Int.reduceMul, Int.reduceEq, Int.reduceNeg, reduceCtorEq, or_false, false_or, decide_true, decide_false, Int.cast_ofNat_Int, Nat.zero_add, Nat.add_zero, Int.toNat_natCast, Option.isNone_none, Option.isNone_some, Bool.not_true, Bool.not_false, Bool.xor_true, Bool.xor_false, Bool.true_xor, Bool.false_xor, decide_true, decide_false, Bool.and_true, Bool.true_and, Bool.and_false, Bool.false_and, eq_self, ne_eq, not_false_eq_true, not_true_eq_false, true_and, and_true, and_self]
    exact fun ρ a w hs _ => ⟨rfl, hs.grown⟩
  simp only [Bool.and_eq_true] at hop
  obtain ⟨hin, ho⟩ := hop
  obtain ⟨j, rfl, hk1, hk⟩ := inS_k hin
  have ho : (U j).op = true := ho
  have hws : rWs U j = (U j).ws := by unfold rWs; rw [hin]; simp [ho]
  rcases hSk : S j with _ | ⟨bl, cc⟩
  · have hwr := ht.wr j hk
    rw [hSk] at hwr
    have hw0 : (U j).ws = [] := hwr
    refine rrd_calls ht 42 _ Try.func31 rfl Try.ntmps31 Try.results31 [.c (.p 0 0 0), .c (.v (.int .i64 j)), .c (.v (.string b)), .c (.v (.string k))] (by simp) (fun ρ h => by simp [SV.denL, SV.den, CV.den, CV.denL, h]) ?_
    have hr : rownW U j b k = none := by unfold rownW; rw [hws, hw0]; rfl
    have hrow := rrow_eq U S j
    have hsl : slv (S j) (U j).ws.length = .slice none 0 0 := by rw [hSk]; rfl
    rw [hr]
    simp only [go_sem, ↓reduceIte, Nat.reduceEqDiff, Nat.reduceLT, Nat.reduceLeDiff, Nat.reduceAdd, Nat.reduceMul, Nat.reduceSub, Nat.reduceDiv, Nat.reduceMod, Int.reduceToNat, Int.reduceLT, Int.reduceLE, Int.reduceAdd, Int.reduceSub, Int.reduceMul, Int.reduceEq, Int.reduceNeg, reduceCtorEq, or_false, false_or, decide_true, decide_false, Int.cast_ofNat_Int, Nat.zero_add, Nat.add_zero, Int.toNat_natCast, Option.isNone_none, Option.isNone_some, Bool.not_true, Bool.not_false, Bool.xor_true, Bool.xor_false, Bool.true_xor, Bool.false_xor, decide_true, decide_false, Bool.and_true, Bool.true_and, Bool.and_false, Bool.false_and, eq_self, ne_eq, not_false_eq_true, not_true_eq_false, true_and, and_true, and_self]
    refine scall_in 25 _ Try.func33 rfl Try.ntmps33 Try.results33 Try.call33 ?_
    simp only [go_sem, ↓reduceIte, Nat.reduceEqDiff, Nat.reduceLT, Nat.reduceLeDiff, Nat.reduceAdd, Nat.reduceMul, Nat.reduceSub, Nat.reduceDiv, Nat.reduceMod, Int.reduceToNat, Int.reduceLT, Int.reduceLE, Int.reduceAdd, Int.reduceSub, Int.reduceMul, Int.reduceEq, Int.reduceNeg, reduceCtorEq, or_false, false_or, decide_true, decide_false, Int.cast_ofNat_Int, Nat.zero_add, Nat.add_zero, Int.toNat_natCast, Option.isNone_none, Option.isNone_some, Bool.not_true, Bool.not_false, Bool.xor_true, Bool.xor_false, Bool.true_xor, Bool.false_xor, decide_true, decide_false, Bool.and_true, Bool.true_and, Bool.and_false, Bool.false_and, eq_self, ne_eq, not_false_eq_true, not_true_eq_false, true_and, and_true, and_self]
    refine ris_s ?_
    simp (disch := omega) only [go_sem, ↓reduceIte, Nat.reduceEqDiff, Nat.reduceLT, Nat.reduceLeDiff, Nat.reduceAdd, Nat.reduceMul, Nat.reduceSub, Nat.reduceDiv, Nat.reduceMod, Int.reduceToNat, Int.reduceLT, Int.reduceLE, Int.reduceAdd, Int.reduceSub, Int.reduceMul, Int.reduceEq, Int.reduceNeg, reduceCtorEq, or_false, false_or, decide_true, decide_false, Int.cast_ofNat_Int, Nat.zero_add, Nat.add_zero, Int.toNat_natCast, Option.isNone_none, Option.isNone_some, Bool.not_true, Bool.not_false, Bool.xor_true, Bool.xor_false, Bool.true_xor, Bool.false_xor, decide_true, decide_false, Bool.and_true, Bool.true_and, Bool.and_false, Bool.false_and, eq_self, ne_eq, not_false_eq_true, not_true_eq_false, true_and, and_true, and_self, wrapI64, wrapu64, wrapu32, wrapu8, ltT, ltF, leT, leF, eqF, eqT, nltT, nleT, hrow, ho, hin, hsl]
    refine sloop_rounds 1 ?_
    simp only [go_sem, ↓reduceIte, Nat.reduceEqDiff, Nat.reduceLT, Nat.reduceLeDiff, Nat.reduceAdd, Nat.reduceMul, Nat.reduceSub, Nat.reduceDiv, Nat.reduceMod, Int.reduceToNat, Int.reduceLT, Int.reduceLE, Int.reduceAdd, Int.reduceSub, Int.reduceMul, Int.reduceEq, Int.reduceNeg, reduceCtorEq, or_false, false_or, decide_true, decide_false, Int.cast_ofNat_Int, Nat.zero_add, Nat.add_zero, Int.toNat_natCast, Option.isNone_none, Option.isNone_some, Bool.not_true, Bool.not_false, Bool.xor_true, Bool.xor_false, Bool.true_xor, Bool.false_xor, decide_true, decide_false, Bool.and_true, Bool.true_and, Bool.and_false, Bool.false_and, eq_self, ne_eq, not_false_eq_true, not_true_eq_false, true_and, and_true, and_self]
    exact fun ρ a w hs _ => ⟨rfl, hs.grown⟩
  refine rrd_calls1 ht hk hSk 42 _ Try.func31 rfl Try.ntmps31 Try.results31 [.c (.p 0 0 0), .c (.v (.int .i64 j)), .c (.v (.string b)), .c (.v (.string k))] (by simp) (fun ρ h => by simp [SV.denL, SV.den, CV.den, CV.denL, h]) ?_
  have hrow := rrk_same U S j 1 (U j).ws.length cc
  have hlen := ht.wr j hk
  rw [hSk] at hlen
  have hlen := hlen.1.1
  obtain ⟨res, hres⟩ : ∃ res, rownW U j b k = res := ⟨_, rfl⟩
  have hres0 : ((U j).ws.drop 0).find? (hit b k) = res := by rw [List.drop_zero, ← hres, rownW, hws]
  rw [hres]
  simp only [go_sem, ↓reduceIte, Nat.reduceEqDiff, Nat.reduceLT, Nat.reduceLeDiff, Nat.reduceAdd, Nat.reduceMul, Nat.reduceSub, Nat.reduceDiv, Nat.reduceMod, Int.reduceToNat, Int.reduceLT, Int.reduceLE, Int.reduceAdd, Int.reduceSub, Int.reduceMul, Int.reduceEq, Int.reduceNeg, reduceCtorEq, or_false, false_or, decide_true, decide_false, Int.cast_ofNat_Int, Nat.zero_add, Nat.add_zero, Int.toNat_natCast, Option.isNone_none, Option.isNone_some, Bool.not_true, Bool.not_false, Bool.xor_true, Bool.xor_false, Bool.true_xor, Bool.false_xor, decide_true, decide_false, Bool.and_true, Bool.true_and, Bool.and_false, Bool.false_and, eq_self, ne_eq, not_false_eq_true, not_true_eq_false, true_and, and_true, and_self]
  refine scall_in 25 _ Try.func33 rfl Try.ntmps33 Try.results33 Try.call33 ?_
  simp only [go_sem, ↓reduceIte, Nat.reduceEqDiff, Nat.reduceLT, Nat.reduceLeDiff, Nat.reduceAdd, Nat.reduceMul, Nat.reduceSub, Nat.reduceDiv, Nat.reduceMod, Int.reduceToNat, Int.reduceLT, Int.reduceLE, Int.reduceAdd, Int.reduceSub, Int.reduceMul, Int.reduceEq, Int.reduceNeg, reduceCtorEq, or_false, false_or, decide_true, decide_false, Int.cast_ofNat_Int, Nat.zero_add, Nat.add_zero, Int.toNat_natCast, Option.isNone_none, Option.isNone_some, Bool.not_true, Bool.not_false, Bool.xor_true, Bool.xor_false, Bool.true_xor, Bool.false_xor, decide_true, decide_false, Bool.and_true, Bool.true_and, Bool.and_false, Bool.false_and, eq_self, ne_eq, not_false_eq_true, not_true_eq_false, true_and, and_true, and_self]
  refine ris_s ?_
  simp (disch := omega) only [go_sem, ↓reduceIte, Nat.reduceEqDiff, Nat.reduceLT, Nat.reduceLeDiff, Nat.reduceAdd, Nat.reduceMul, Nat.reduceSub, Nat.reduceDiv, Nat.reduceMod, Int.reduceToNat, Int.reduceLT, Int.reduceLE, Int.reduceAdd, Int.reduceSub, Int.reduceMul, Int.reduceEq, Int.reduceNeg, reduceCtorEq, or_false, false_or, decide_true, decide_false, Int.cast_ofNat_Int, Nat.zero_add, Nat.add_zero, Int.toNat_natCast, Option.isNone_none, Option.isNone_some, Bool.not_true, Bool.not_false, Bool.xor_true, Bool.xor_false, Bool.true_xor, Bool.false_xor, decide_true, decide_false, Bool.and_true, Bool.true_and, Bool.and_false, Bool.false_and, eq_self, ne_eq, not_false_eq_true, not_true_eq_false, true_and, and_true, and_self, wrapI64, wrapu64, wrapu32, wrapu8, ltT, ltF, leT, leF, eqF, eqT, nltT, nleT, hrow, ho, hin]
  refine sloop (fun i : Nat => ⟨[(11, .c (.v (.int .i64 i))), (10, .c (.s 1 0 (U j).ws.length cc)), (8, .c (.p 2 0 0)), (2, .c (.v (.string b))), (3, .c (.v (.string k)))], [(2, .cells 56 [.v (.string ⟨#[]⟩), .v (.string ⟨#[]⟩), .v (.string ⟨#[]⟩), .v (.bool false)]), (0, .imm 10 9 (rrk U S j 1 (U j).ws.length cc)), (1, .imm 4 (U j).ws.length fun q => (wrow (U j).ws q).map .v)], 3⟩) (fun i => i ≤ (U j).ws.length ∧ ((U j).ws.drop i).find? (hit b k) = res) (fun i => (U j).ws.length - i) 0 ⟨by omega, hres0⟩ (ent_drop ⟨rfl, rfl, rfl, rfl, rfl, trivial⟩ ⟨rfl, rfl, rfl, trivial⟩ (by simp)) (fun i hp => ?_)
  obtain ⟨hi, hf⟩ := hp
  by_cases h : i < (U j).ws.length
  · obtain ⟨x, hx⟩ : ∃ x, (U j).ws[i]? = some x := ⟨_, List.getElem?_eq_getElem h⟩
    have hr2 := wrow_eq hx
    rw [find_drop hx] at hf
    obtain ⟨c1, c2, d1, d2⟩ : ∃ c1 c2, decide (x.b = b) = c1 ∧ decide (x.k = k) = c2 := ⟨_, _, rfl, rfl⟩
    have hh : hit b k x = (c1 && c2) := by rw [← d1, ← d2]; rfl
    rw [hh] at hf
    cases c1 <;> cases c2
    all_goals
      simp (disch := omega) only [go_sem, ↓reduceIte, Nat.reduceEqDiff, Nat.reduceLT, Nat.reduceLeDiff, Nat.reduceAdd, Nat.reduceMul, Nat.reduceSub, Nat.reduceDiv, Nat.reduceMod, Int.reduceToNat, Int.reduceLT, Int.reduceLE, Int.reduceAdd, Int.reduceSub, Int.reduceMul, Int.reduceEq, Int.reduceNeg, reduceCtorEq, or_false, false_or, decide_true, decide_false, Int.cast_ofNat_Int, Nat.zero_add, Nat.add_zero, Int.toNat_natCast, Option.isNone_none, Option.isNone_some, Bool.not_true, Bool.not_false, Bool.xor_true, Bool.xor_false, Bool.true_xor, Bool.false_xor, decide_true, decide_false, Bool.and_true, Bool.true_and, Bool.and_false, Bool.false_and, eq_self, ne_eq, not_false_eq_true, not_true_eq_false, true_and, and_true, and_self, wrapI64, wrapu64, wrapu32, wrapu8, ltT, ltF, leT, leF, eqF, eqT, nltT, nleT, hr2, d1, d2]
      first
        | (have hr : res = some x := by simpa using hf.symm
           rw [hr]
           exact fun ρ a w hs _ => ⟨rfl, hs.grown⟩)
        | exact ⟨i + 1, ⟨by omega, by simpa using hf⟩, by omega, ent_drop ⟨rfl, rfl, rfl, rfl, rfl, trivial⟩ ⟨rfl, rfl, rfl, trivial⟩ (by simp)⟩
  · have hil : i = (U j).ws.length := by omega
    subst hil
    rw [List.drop_length] at hf
    have hr : res = none := hf.symm
    rw [hr]
    simp (disch := omega) only [go_sem, ↓reduceIte, Nat.reduceEqDiff, Nat.reduceLT, Nat.reduceLeDiff, Nat.reduceAdd, Nat.reduceMul, Nat.reduceSub, Nat.reduceDiv, Nat.reduceMod, Int.reduceToNat, Int.reduceLT, Int.reduceLE, Int.reduceAdd, Int.reduceSub, Int.reduceMul, Int.reduceEq, Int.reduceNeg, reduceCtorEq, or_false, false_or, decide_true, decide_false, Int.cast_ofNat_Int, Nat.zero_add, Nat.add_zero, Int.toNat_natCast, Option.isNone_none, Option.isNone_some, Bool.not_true, Bool.not_false, Bool.xor_true, Bool.xor_false, Bool.true_xor, Bool.false_xor, decide_true, decide_false, Bool.and_true, Bool.true_and, Bool.and_false, Bool.false_and, eq_self, ne_eq, not_false_eq_true, not_true_eq_false, true_and, and_true, and_self, wrapI64, wrapu64, wrapu32, wrapu8, ltT, ltF, leT, leF, eqF, eqT, nltT, nleT]
    exact fun ρ a w hs _ => ⟨rfl, hs.grown⟩
def rmanyN (U : Nat → RO) (n : Nat) : Nat := ((List.range n).filter fun i => (U (i + 1)).op).length
theorem rmanyN_s (U : Nat → RO) (n : Nat) : rmanyN U (n + 1) = rmanyN U n + if (U (n + 1)).op then 1 else 0 := by
  simp only [rmanyN, List.range_succ, List.filter_append, List.length_append, List.filter_cons, List.filter_nil]
  cases (U (n + 1)).op <;> rfl
theorem rmanyN_le (U : Nat → RO) (n : Nat) : rmanyN U n ≤ n := by
  have := List.length_filter_le (fun i => (U (i + 1)).op) (List.range n)
  simpa [rmanyN] using this
set_option maxRecDepth 100000 in
theorem rmany_c (g : Nat) (U : Nat → RO) (S : Nat → Option (Nat × Nat)) (w : World) (ht : RTab g U S w) :
    Calls Try.prog 39 #[ptr g] w (RKeep g U S (.int .i64 (rmanyN U 8)) w) := by
  suffices Calls Try.prog 39 #[ptr g] w fun e w' => e = .returned (.int .i64 (rmanyN U 8)) ∧ Below w.heap.size w w' from
    this.mono fun e w' ⟨h1, h2⟩ => ⟨h1, ht.keep h2⟩
  refine rrd_calls ht 19 _ Try.func39 rfl Try.ntmps39 Try.results39 [.c (.p 0 0 0)] (by simp) (fun ρ h => by simp [SV.denL, SV.den, CV.den, CV.denL, h]) ?_
  simp only [go_sem, ↓reduceIte, Nat.reduceEqDiff, Nat.reduceLT, Nat.reduceLeDiff, Nat.reduceAdd, Nat.reduceMul, Nat.reduceSub, Nat.reduceDiv, Nat.reduceMod, Int.reduceToNat, Int.reduceLT, Int.reduceLE, Int.reduceAdd, Int.reduceSub, Int.reduceMul, Int.reduceEq, Int.reduceNeg, reduceCtorEq, or_false, false_or, decide_true, decide_false, Int.cast_ofNat_Int, Nat.zero_add, Nat.add_zero, Int.toNat_natCast, Option.isNone_none, Option.isNone_some, Bool.not_true, Bool.not_false, Bool.xor_true, Bool.xor_false, Bool.true_xor, Bool.false_xor, decide_true, decide_false, Bool.and_true, Bool.true_and, Bool.and_false, Bool.false_and, eq_self, ne_eq, not_false_eq_true, not_true_eq_false, true_and, and_true, and_self]
  refine sloop (fun i : Nat => ⟨[(4, .c (.v (.int .i64 ((i + 1 : Nat) : Int)))), (3, .c (.v (.int .i64 (rmanyN U i)))), (0, .c (.p 0 0 0))], [(0, .imm 10 9 fun i => ((U i).row (S i)).map .v)], 1⟩) (fun i => i ≤ 8) (fun i => 8 - i) 0 (by omega) (ent_drop ⟨rfl, rfl, rfl, trivial⟩ ⟨rfl, trivial⟩ (by simp)) (fun i hi => ?_)
  have hle := rmanyN_le U i
  by_cases h : i < 8
  · have hrow := rrow_eq U S (i + 1)
    have d0 : decide (((i + 1 : Nat) : Int) ≤ 8) = true := by simp; omega
    have w1 : IntKind.i64.wrap (((i + 1 : Nat) : Int) + 1) = ((i + 1 + 1 : Nat) : Int) := wrap_i64 _ (by omega) (by omega)
    have w2 : IntKind.i64.wrap ((rmanyN U i : Int) + 1) = ((rmanyN U i + 1 : Nat) : Int) := wrap_i64 _ (by omega) (by omega)
    cases ho : (U (i + 1)).op
    · simp (disch := omega) only [go_sem, ↓reduceIte, Nat.reduceEqDiff, Nat.reduceLT, Nat.reduceLeDiff, Nat.reduceAdd, Nat.reduceMul, Nat.reduceSub, Nat.reduceDiv, Nat.reduceMod, Int.reduceToNat, Int.reduceLT, Int.reduceLE, Int.reduceAdd, Int.reduceSub, Int.reduceMul, Int.reduceEq, Int.reduceNeg, reduceCtorEq, or_false, false_or, decide_true, decide_false, Int.cast_ofNat_Int, Nat.zero_add, Nat.add_zero, Int.toNat_natCast, Option.isNone_none, Option.isNone_some, Bool.not_true, Bool.not_false, Bool.xor_true, Bool.xor_false, Bool.true_xor, Bool.false_xor, decide_true, decide_false, Bool.and_true, Bool.true_and, Bool.and_false, Bool.false_and, eq_self, ne_eq, not_false_eq_true, not_true_eq_false, true_and, and_true, and_self, wrapI64, wrapu64, wrapu32, wrapu8, ltT, ltF, leT, leF, eqF, eqT, nltT, nleT, hrow, ho, d0, w1, w2]
      have e : rmanyN U (i + 1) = rmanyN U i := by simp [rmanyN_s, ho]
      refine ⟨i + 1, by omega, by omega, ent_drop ⟨rfl, ?_, rfl, trivial⟩ ⟨rfl, trivial⟩ (by simp)⟩
      rw [e]; rfl
    · simp (disch := omega) only [go_sem, ↓reduceIte, Nat.reduceEqDiff, Nat.reduceLT, Nat.reduceLeDiff, Nat.reduceAdd, Nat.reduceMul, Nat.reduceSub, Nat.reduceDiv, Nat.reduceMod, Int.reduceToNat, Int.reduceLT, Int.reduceLE, Int.reduceAdd, Int.reduceSub, Int.reduceMul, Int.reduceEq, Int.reduceNeg, reduceCtorEq, or_false, false_or, decide_true, decide_false, Int.cast_ofNat_Int, Nat.zero_add, Nat.add_zero, Int.toNat_natCast, Option.isNone_none, Option.isNone_some, Bool.not_true, Bool.not_false, Bool.xor_true, Bool.xor_false, Bool.true_xor, Bool.false_xor, decide_true, decide_false, Bool.and_true, Bool.true_and, Bool.and_false, Bool.false_and, eq_self, ne_eq, not_false_eq_true, not_true_eq_false, true_and, and_true, and_self, wrapI64, wrapu64, wrapu32, wrapu8, ltT, ltF, leT, leF, eqF, eqT, nltT, nleT, hrow, ho, d0, w1, w2]
      have e : rmanyN U (i + 1) = rmanyN U i + 1 := by simp [rmanyN_s, ho]
      refine ⟨i + 1, by omega, by omega, ent_drop ⟨rfl, ?_, rfl, trivial⟩ ⟨rfl, trivial⟩ (by simp)⟩
      rw [e]; rfl
  · have : i = 8 := by omega
    subst this
    simp (disch := omega) only [go_sem, ↓reduceIte, Nat.reduceEqDiff, Nat.reduceLT, Nat.reduceLeDiff, Nat.reduceAdd, Nat.reduceMul, Nat.reduceSub, Nat.reduceDiv, Nat.reduceMod, Int.reduceToNat, Int.reduceLT, Int.reduceLE, Int.reduceAdd, Int.reduceSub, Int.reduceMul, Int.reduceEq, Int.reduceNeg, reduceCtorEq, or_false, false_or, decide_true, decide_false, Int.cast_ofNat_Int, Nat.zero_add, Nat.add_zero, Int.toNat_natCast, Option.isNone_none, Option.isNone_some, Bool.not_true, Bool.not_false, Bool.xor_true, Bool.xor_false, Bool.true_xor, Bool.false_xor, decide_true, decide_false, Bool.and_true, Bool.true_and, Bool.and_false, Bool.false_and, eq_self, ne_eq, not_false_eq_true, not_true_eq_false, true_and, and_true, and_self, wrapI64, wrapu64, wrapu32, wrapu8, ltT, ltF, leT, leF, eqF, eqT, nltT, nleT]
    exact fun ρ a w hs _ => ⟨rfl, hs.grown⟩
def rhorV (U : Nat → RO) (s : V4) : Nat → V4
  | 0 => s
  | n + 1 => if (U (n + 1)).op then (rhorV U s n).meet (U (n + 1)).sn else rhorV U s n
set_option maxRecDepth 100000 in
theorem rhor_c (g : Nat) (U : Nat → RO) (S : Nat → Option (Nat × Nat)) (s : V4) (w : World) (ht : RTab g U S w) :
    Calls Try.prog 37 #[ptr g, s.v] w (RKeep g U S (rhorV U s 8).v w) := by
  suffices Calls Try.prog 37 #[ptr g, s.v] w fun e w' => e = .returned (rhorV U s 8).v ∧ Below w.heap.size w w' from
    this.mono fun e w' ⟨h1, h2⟩ => ⟨h1, ht.keep h2⟩
  refine rrd_calls ht 27 _ Try.func37 rfl Try.ntmps37 Try.results37 [.c (.p 0 0 0), sv4 s.a s.b s.c s.d] (by simp) (fun ρ h => by simp [SV.denL, SV.den, CV.den, CV.denL, h]) ?_
  simp only [go_sem, ↓reduceIte, Nat.reduceEqDiff, Nat.reduceLT, Nat.reduceLeDiff, Nat.reduceAdd, Nat.reduceMul, Nat.reduceSub, Nat.reduceDiv, Nat.reduceMod, Int.reduceToNat, Int.reduceLT, Int.reduceLE, Int.reduceAdd, Int.reduceSub, Int.reduceMul, Int.reduceEq, Int.reduceNeg, reduceCtorEq, or_false, false_or, decide_true, decide_false, Int.cast_ofNat_Int, Nat.zero_add, Nat.add_zero, Int.toNat_natCast, Option.isNone_none, Option.isNone_some, Bool.not_true, Bool.not_false, Bool.xor_true, Bool.xor_false, Bool.true_xor, Bool.false_xor, decide_true, decide_false, Bool.and_true, Bool.true_and, Bool.and_false, Bool.false_and, eq_self, ne_eq, not_false_eq_true, not_true_eq_false, true_and, and_true, and_self]
  refine sloop (fun i : Nat => ⟨[(5, .c (.v (.int .i64 ((i + 1 : Nat) : Int)))), (3, .c (.p 1 0 0)), (4, .c (.p 2 0 0)), (0, .c (.p 0 0 0))], [(2, .cells 32 [cu 0, cu 0, cu 0, cu 0]), (1, .cells 32 [cu (rhorV U s i).a, cu (rhorV U s i).b, cu (rhorV U s i).c, cu (rhorV U s i).d]), (0, .imm 10 9 fun i => ((U i).row (S i)).map .v)], 3⟩) (fun i => i ≤ 8) (fun i => 8 - i) 0 (by omega) (ent_drop ⟨rfl, rfl, rfl, rfl, trivial⟩ ⟨rfl, rfl, rfl, trivial⟩ (by simp)) (fun i hi => ?_)
  by_cases h : i < 8
  · have hrow := rrow_eq U S (i + 1)
    have d0 : decide (((i + 1 : Nat) : Int) ≤ 8) = true := by simp; omega
    have w1 : IntKind.i64.wrap (((i + 1 : Nat) : Int) + 1) = ((i + 1 + 1 : Nat) : Int) := wrap_i64 _ (by omega) (by omega)
    cases ho : (U (i + 1)).op
    · simp (disch := omega) only [go_sem, ↓reduceIte, Nat.reduceEqDiff, Nat.reduceLT, Nat.reduceLeDiff, Nat.reduceAdd, Nat.reduceMul, Nat.reduceSub, Nat.reduceDiv, Nat.reduceMod, Int.reduceToNat, Int.reduceLT, Int.reduceLE, Int.reduceAdd, Int.reduceSub, Int.reduceMul, Int.reduceEq, Int.reduceNeg, reduceCtorEq, or_false, false_or, decide_true, decide_false, Int.cast_ofNat_Int, Nat.zero_add, Nat.add_zero, Int.toNat_natCast, Option.isNone_none, Option.isNone_some, Bool.not_true, Bool.not_false, Bool.xor_true, Bool.xor_false, Bool.true_xor, Bool.false_xor, decide_true, decide_false, Bool.and_true, Bool.true_and, Bool.and_false, Bool.false_and, eq_self, ne_eq, not_false_eq_true, not_true_eq_false, true_and, and_true, and_self, wrapI64, wrapu64, wrapu32, wrapu8, ltT, ltF, leT, leF, eqF, eqT, nltT, nleT, hrow, ho, d0, w1]
      have e : rhorV U s (i + 1) = rhorV U s i := by simp [rhorV, ho]
      refine ⟨i + 1, by omega, by omega, ent_drop ⟨rfl, rfl, rfl, rfl, trivial⟩ ?_ (by simp)⟩
      rw [e]; exact ⟨rfl, rfl, rfl, trivial⟩
    · simp (disch := omega) only [go_sem, ↓reduceIte, Nat.reduceEqDiff, Nat.reduceLT, Nat.reduceLeDiff, Nat.reduceAdd, Nat.reduceMul, Nat.reduceSub, Nat.reduceDiv, Nat.reduceMod, Int.reduceToNat, Int.reduceLT, Int.reduceLE, Int.reduceAdd, Int.reduceSub, Int.reduceMul, Int.reduceEq, Int.reduceNeg, reduceCtorEq, or_false, false_or, decide_true, decide_false, Int.cast_ofNat_Int, Nat.zero_add, Nat.add_zero, Int.toNat_natCast, Option.isNone_none, Option.isNone_some, Bool.not_true, Bool.not_false, Bool.xor_true, Bool.xor_false, Bool.true_xor, Bool.false_xor, decide_true, decide_false, Bool.and_true, Bool.true_and, Bool.and_false, Bool.false_and, eq_self, ne_eq, not_false_eq_true, not_true_eq_false, true_and, and_true, and_self, wrapI64, wrapu64, wrapu32, wrapu8, ltT, ltF, leT, leF, eqF, eqT, nltT, nleT, hrow, ho, d0, w1]
      refine sdraw0 [.t 0, .t 1, .t 2, .t 3, .t 4, .t 5, .t 6, .t 7, .r 8, .r 9] 9 rfl (by kernel_rfl) ?_
      simp (disch := omega) only [go_sem, ↓reduceIte, Nat.reduceEqDiff, Nat.reduceLT, Nat.reduceLeDiff, Nat.reduceAdd, Nat.reduceMul, Nat.reduceSub, Nat.reduceDiv, Nat.reduceMod, Int.reduceToNat, Int.reduceLT, Int.reduceLE, Int.reduceAdd, Int.reduceSub, Int.reduceMul, Int.reduceEq, Int.reduceNeg, reduceCtorEq, or_false, false_or, decide_true, decide_false, Int.cast_ofNat_Int, Nat.zero_add, Nat.add_zero, Int.toNat_natCast, Option.isNone_none, Option.isNone_some, Bool.not_true, Bool.not_false, Bool.xor_true, Bool.xor_false, Bool.true_xor, Bool.false_xor, decide_true, decide_false, Bool.and_true, Bool.true_and, Bool.and_false, Bool.false_and, eq_self, ne_eq, not_false_eq_true, not_true_eq_false, true_and, and_true, and_self, wrapI64, wrapu64, wrapu32, wrapu8, ltT, ltF, leT, leF, eqF, eqT, nltT, nleT, hrow]
      refine rmeet_s ?_
      simp (disch := omega) only [go_sem, ↓reduceIte, Nat.reduceEqDiff, Nat.reduceLT, Nat.reduceLeDiff, Nat.reduceAdd, Nat.reduceMul, Nat.reduceSub, Nat.reduceDiv, Nat.reduceMod, Int.reduceToNat, Int.reduceLT, Int.reduceLE, Int.reduceAdd, Int.reduceSub, Int.reduceMul, Int.reduceEq, Int.reduceNeg, reduceCtorEq, or_false, false_or, decide_true, decide_false, Int.cast_ofNat_Int, Nat.zero_add, Nat.add_zero, Int.toNat_natCast, Option.isNone_none, Option.isNone_some, Bool.not_true, Bool.not_false, Bool.xor_true, Bool.xor_false, Bool.true_xor, Bool.false_xor, decide_true, decide_false, Bool.and_true, Bool.true_and, Bool.and_false, Bool.false_and, eq_self, ne_eq, not_false_eq_true, not_true_eq_false, true_and, and_true, and_self, wrapI64, wrapu64, wrapu32, wrapu8, ltT, ltF, leT, leF, eqF, eqT, nltT, nleT, w1]
      have e : rhorV U s (i + 1) = (rhorV U s i).meet (U (i + 1)).sn := by simp [rhorV, ho]
      refine ⟨i + 1, by omega, by omega, ent_drop ⟨rfl, rfl, rfl, rfl, trivial⟩ ?_ (by simp)⟩
      rw [e]; exact ⟨rfl, rfl, rfl, trivial⟩
  · have : i = 8 := by omega
    subst this
    simp (disch := omega) only [go_sem, ↓reduceIte, Nat.reduceEqDiff, Nat.reduceLT, Nat.reduceLeDiff, Nat.reduceAdd, Nat.reduceMul, Nat.reduceSub, Nat.reduceDiv, Nat.reduceMod, Int.reduceToNat, Int.reduceLT, Int.reduceLE, Int.reduceAdd, Int.reduceSub, Int.reduceMul, Int.reduceEq, Int.reduceNeg, reduceCtorEq, or_false, false_or, decide_true, decide_false, Int.cast_ofNat_Int, Nat.zero_add, Nat.add_zero, Int.toNat_natCast, Option.isNone_none, Option.isNone_some, Bool.not_true, Bool.not_false, Bool.xor_true, Bool.xor_false, Bool.true_xor, Bool.false_xor, decide_true, decide_false, Bool.and_true, Bool.true_and, Bool.and_false, Bool.false_and, eq_self, ne_eq, not_false_eq_true, not_true_eq_false, true_and, and_true, and_self, wrapI64, wrapu64, wrapu32, wrapu8, ltT, ltF, leT, leF, eqF, eqT, nltT, nleT]
    exact fun ρ a w hs _ => ⟨rfl, hs.grown⟩
end Go.Proofs.Ytfokingbglkmjaa
