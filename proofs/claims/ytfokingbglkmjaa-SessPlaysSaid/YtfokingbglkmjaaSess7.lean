/-
  Reading and writing a transaction's writes. Conditions: none.
-/
import Derived.Test.YtfokingbglkmjaaSess6
namespace Go.Proofs.Ytfokingbglkmjaa
open Go.RowKit Go.Sx
set_option linter.unusedVariables false
set_option linter.unusedSimpArgs false

theorem tab_callsS {f : FuncId} {fn : Func} {c : Code} {args : Array Value} {w : World} {R : Ending → World → Prop} {g : Nat} {T : Nat → One} {S : Nat → Option (Nat × Nat)} {fp : List Nat} (hS : Tab g T S w) (hfp : fp = g :: restf (List.range 9) S) (n : Nat) (rs : List ResultVar) (hf : Try.prog.funcs[f]? = some fn) (hb : fn.body = some c) (hn : fn.ntmps = n) (hr : fn.results = rs.toArray)
    (xs : List SV) (hl : xs.length ≤ n) (ha : ∀ ρ' : Env, ρ' 0 = ⟨g, 0, 10⟩ → args.toList = SV.denL ρ' xs)
    (h : X Try.prog ⟨w, (· ∈ fp), n, 2, fun _ => ⟨g, 0, 10⟩⟩ c (retQ Try.prog ⟨w, (· ∈ fp), n, 2, fun _ => ⟨g, 0, 10⟩⟩ rs R) ⟨frOf 0 xs, [(0, .rows 162 10 9 9 fun i => ((T i).row (S i)).map .v), (1, .pred (restf (List.range 9) S) (Wrs (List.range 9) T S))], 2⟩) : Calls Try.prog f args w R := by
  refine calls_of (· ∈ fp) n rs hf hb hn hr xs [(0, .rows 162 10 9 9 fun i => ((T i).row (S i)).map .v), (1, .pred (restf (List.range 9) S) (Wrs (List.range 9) T S))] 2 (fun _ => ⟨g, 0, 10⟩) hl (fun ρ' hρ => ha ρ' (hρ 0 (by omega))) (fun ρ' hρ => ⟨fun m b hm => ?_, ?_⟩) (fun m b hm => ?_) (by simp) h
  · simp only [List.mem_cons, Prod.mk.injEq, List.not_mem_nil, or_false] at hm
    rcases hm with ⟨rfl, rfl⟩ | ⟨rfl, rfl⟩
    · exact hS.row.holds (hρ 0 (by omega)) (.inr (by show g ∈ fp; rw [hfp]; simp)) fun i _ => map_v _ _
    · exact ⟨fun i hi => hS.wr i (by simpa using hi), Wrs.stable _ _ _, nodup_restf hS.dis _ List.nodup_range (by simp), fun k hk => ⟨hS.lt k (by simp [hk]), .inr (by show k ∈ fp; rw [hfp]; simp [hk])⟩⟩
  · simp only [footL, Blk.foot, List.append_nil, hρ 0 (by omega)]
    exact Tab.fpNodup (T := T) hS.dis
  · simp only [List.mem_cons, Prod.mk.injEq, List.not_mem_nil, or_false] at hm
    rcases hm with ⟨rfl, _⟩ | ⟨rfl, _⟩ <;> omega

theorem upd_self {T : Nat → One} {k : Nat} {p : V4 × List Wr} (h : (T k).op = some p) : upd T k ⟨(T k).seen, some p⟩ = T := by
  funext i
  unfold upd
  split
  · rename_i e; subst e; rw [← h]
  · rfl
theorem tx_of0 {C : Cx} {st : St} {ρ : Env} {a : Act} {w : World} {r' : Nat → List CV} {k : Nat} {sn : V4} {x0 x1 x2 x3 : CV} (hs : Sat C st ρ a w) (h0 : hget st.hp 0 = some (.rows 162 10 9 9 r')) (hk : k < 9)
    (hrk : r' k = [x0, x1, x2, x3, .v (.bool true), cu sn.a, cu sn.b, cu sn.c, cu sn.d, .v (.slice none 0 0)]) :
    (ρ 0).base = 0 ∧ (ρ 0).esz = 10 ∧ TxAt w (ρ 0).blk (k * 10 + 5) sn [] none := by
  obtain ⟨b0, e0, ⟨arr, ha, hc, hr⟩, _⟩ := hs.now.hp _ _ (mem_hget h0)
  refine ⟨b0, e0, fun q hq => ?_, rfl⟩
  have := (hr k hk).2 (5 + q) (by omega)
  rw [hrk] at this
  simp only [World.cell?, ha]
  rw [← Nat.add_assoc] at this
  have hq' : q = 0 ∨ q = 1 ∨ q = 2 ∨ q = 3 ∨ q = 4 := by omega
  rcases hq' with rfl | rfl | rfl | rfl | rfl <;> simp [CV.den, slv] at this ⊢ <;> rw [this]
theorem tx_of {C : Cx} {st : St} {ρ : Env} {a : Act} {w : World} {r' wr' : Nat → List CV} {k cc : Nat} {sn : V4} {ws : List Wr} {x0 x1 x2 x3 : CV} (hs : Sat C st ρ a w) (h0 : hget st.hp 0 = some (.rows 162 10 9 9 r')) (h1 : hget st.hp 1 = some (.rows 41 4 ws.length cc wr')) (hk : k < 9)
    (hrk : r' k = [x0, x1, x2, x3, .v (.bool true), cu sn.a, cu sn.b, cu sn.c, cu sn.d, .s 1 0 ws.length cc]) (hw : ∀ j, j < ws.length → (wr' j).map (CV.den ρ) = wrow ws j) (hl : ws.length ≤ 8 ∧ ws.length ≤ cc ∧ 0 < ws.length) :
    (ρ 0).base = 0 ∧ (ρ 0).esz = 10 ∧ TxAt w (ρ 0).blk (k * 10 + 5) sn ws (some ((ρ 1).blk, cc)) := by
  have k1 := hs.now.hp _ _ (mem_hget h1)
  obtain ⟨b0, e0, ⟨arr, ha, hc, hr⟩, _⟩ := hs.now.hp _ _ (mem_hget h0)
  refine ⟨b0, e0, fun q hq => ?_, hl, rowsAt_of k1 rfl hw⟩
  have := (hr k hk).2 (5 + q) (by omega)
  rw [hrk] at this
  simp only [World.cell?, ha]
  rw [← Nat.add_assoc] at this
  have b1 := k1.1
  have hq' : q = 0 ∨ q = 1 ∨ q = 2 ∨ q = 3 ∨ q = 4 := by omega
  rcases hq' with rfl | rfl | rfl | rfl | rfl <;> simp [CV.den, slv, b1] at this ⊢ <;> rw [this]

def ownB (T : Nat → One) (id : Int) (b k : ByteArray) : Bool := (ownW T id b k).isSome
def ownV (T : Nat → One) (id : Int) (b k : ByteArray) : Wr := (ownW T id b k).getD zw
theorem find_of {ws : List Wr} {b k : ByteArray} : (∃ i x, findI ws b k = (i : Nat) ∧ ws[i]? = some x ∧ ws.find? (hit b k) = some x ∧ hit b k x = true) ∨ (findI ws b k = -1 ∧ ws.find? (hit b k) = none) := by
  unfold findI
  cases h : ws.findIdx? (hit b k) with
  | none =>
    refine .inr ⟨rfl, ?_⟩
    rw [List.find?_eq_none]
    intro x hx
    have := List.findIdx?_eq_none_iff.1 h x hx
    simp [this]
  | some i =>
    obtain ⟨hl, he, hno⟩ := List.findIdx?_eq_some_iff_getElem.1 h
    refine .inl ⟨i, ws[i], rfl, List.getElem?_eq_getElem hl, ?_, he⟩
    rw [List.find?_eq_some_iff_getElem]
    exact ⟨he, i, hl, rfl, fun j hj => by simpa using hno j hj⟩

theorem own_c (g : Nat) (T : Nat → One) (fp : List Nat) (id : Int) (b key : ByteArray) (w : World) (ht : TabIs g T fp w) :
    Calls Try.prog 30 #[ptr g, .int .i64 id, .string b, .string key] w (Turns g fp (.tuple #[(ownV T id b key).v, .bool (ownB T id b key)]) T w) := by
  obtain ⟨S, hS, hfp⟩ := ht
  by_cases h1 : id < 1
  · have d1 : decide (id < 1) = true := by simp [h1]
    have d2 : inS id = false := by simp [inS]; omega
    refine tab_callsS hS hfp 32 _ Try.func30 rfl Try.ntmps30 Try.results30 [.c (.p 0 0 0), .c (.v (.int .i64 id)), .c (.v (.string b)), .c (.v (.string key))] (by simp) (fun ρ h => by simp [SV.denL, SV.den, CV.den, CV.denL, h]) ?_
    simp only [go_sem, ↓reduceIte, Nat.reduceEqDiff, Nat.reduceLT, Nat.reduceLeDiff, Nat.reduceAdd, Nat.reduceMul, Nat.reduceSub, Nat.reduceDiv, Nat.reduceMod, Int.reduceToNat, Int.reduceLT, Int.reduceLE, Int.reduceAdd, Int.reduceSub, Int.reduceMul, Int.reduceEq, Int.reduceNeg, reduceCtorEq, or_false, false_or, decide_true, decide_false, Int.cast_ofNat_Int, Nat.zero_add, Nat.add_zero, Int.toNat_natCast, Option.isNone_none, Option.isNone_some, Bool.not_true, Bool.not_false, Bool.xor_true, Bool.xor_false, Bool.true_xor, Bool.false_xor, decide_true, decide_false, Bool.and_true, Bool.true_and, Bool.and_false, Bool.false_and, eq_self, ne_eq, not_false_eq_true, not_true_eq_false, true_and, and_true, and_self]
    refine scall_in 23 _ Try.func84 rfl Try.ntmps84 Try.results84 Try.call84 ?_
    simp only [go_sem, ↓reduceIte, Nat.reduceEqDiff, Nat.reduceLT, Nat.reduceLeDiff, Nat.reduceAdd, Nat.reduceMul, Nat.reduceSub, Nat.reduceDiv, Nat.reduceMod, Int.reduceToNat, Int.reduceLT, Int.reduceLE, Int.reduceAdd, Int.reduceSub, Int.reduceMul, Int.reduceEq, Int.reduceNeg, reduceCtorEq, or_false, false_or, decide_true, decide_false, Int.cast_ofNat_Int, Nat.zero_add, Nat.add_zero, Int.toNat_natCast, Option.isNone_none, Option.isNone_some, Bool.not_true, Bool.not_false, Bool.xor_true, Bool.xor_false, Bool.true_xor, Bool.false_xor, decide_true, decide_false, Bool.and_true, Bool.true_and, Bool.and_false, Bool.false_and, eq_self, ne_eq, not_false_eq_true, not_true_eq_false, true_and, and_true, and_self]
    refine scall_in 16 _ Try.func81 rfl Try.ntmps81 Try.results81 Try.call81 ?_
    simp only [go_sem, ↓reduceIte, Nat.reduceEqDiff, Nat.reduceLT, Nat.reduceLeDiff, Nat.reduceAdd, Nat.reduceMul, Nat.reduceSub, Nat.reduceDiv, Nat.reduceMod, Int.reduceToNat, Int.reduceLT, Int.reduceLE, Int.reduceAdd, Int.reduceSub, Int.reduceMul, Int.reduceEq, Int.reduceNeg, reduceCtorEq, or_false, false_or, decide_true, decide_false, Int.cast_ofNat_Int, Nat.zero_add, Nat.add_zero, Int.toNat_natCast, Option.isNone_none, Option.isNone_some, Bool.not_true, Bool.not_false, Bool.xor_true, Bool.xor_false, Bool.true_xor, Bool.false_xor, decide_true, decide_false, Bool.and_true, Bool.true_and, Bool.and_false, Bool.false_and, eq_self, ne_eq, not_false_eq_true, not_true_eq_false, true_and, and_true, and_self, d1]
    refine fun ρ a w' hs hag => ?_
    obtain ⟨fp', h1, h2⟩ := tab_ends (T' := T) (S' := S) hS hfp hs hag rfl rfl (fun i _ => map_v _ _) (fun i _ => .inl ⟨rfl, rfl⟩)
    exact ⟨fp', by simp [SV.den, SV.denL, CV.den, CV.denL, ownV, ownB, ownW, isWs, zw, One.ws, d2], h1, h2⟩
  by_cases h2 : 8 < id
  · have d1 : decide (id < 1) = false := by simp [h1]
    have d3 : decide (8 < id) = true := by simp [h2]
    have d2 : inS id = false := by simp [inS]; omega
    refine tab_callsS hS hfp 32 _ Try.func30 rfl Try.ntmps30 Try.results30 [.c (.p 0 0 0), .c (.v (.int .i64 id)), .c (.v (.string b)), .c (.v (.string key))] (by simp) (fun ρ h => by simp [SV.denL, SV.den, CV.den, CV.denL, h]) ?_
    simp only [go_sem, ↓reduceIte, Nat.reduceEqDiff, Nat.reduceLT, Nat.reduceLeDiff, Nat.reduceAdd, Nat.reduceMul, Nat.reduceSub, Nat.reduceDiv, Nat.reduceMod, Int.reduceToNat, Int.reduceLT, Int.reduceLE, Int.reduceAdd, Int.reduceSub, Int.reduceMul, Int.reduceEq, Int.reduceNeg, reduceCtorEq, or_false, false_or, decide_true, decide_false, Int.cast_ofNat_Int, Nat.zero_add, Nat.add_zero, Int.toNat_natCast, Option.isNone_none, Option.isNone_some, Bool.not_true, Bool.not_false, Bool.xor_true, Bool.xor_false, Bool.true_xor, Bool.false_xor, decide_true, decide_false, Bool.and_true, Bool.true_and, Bool.and_false, Bool.false_and, eq_self, ne_eq, not_false_eq_true, not_true_eq_false, true_and, and_true, and_self]
    refine scall_in 23 _ Try.func84 rfl Try.ntmps84 Try.results84 Try.call84 ?_
    simp only [go_sem, ↓reduceIte, Nat.reduceEqDiff, Nat.reduceLT, Nat.reduceLeDiff, Nat.reduceAdd, Nat.reduceMul, Nat.reduceSub, Nat.reduceDiv, Nat.reduceMod, Int.reduceToNat, Int.reduceLT, Int.reduceLE, Int.reduceAdd, Int.reduceSub, Int.reduceMul, Int.reduceEq, Int.reduceNeg, reduceCtorEq, or_false, false_or, decide_true, decide_false, Int.cast_ofNat_Int, Nat.zero_add, Nat.add_zero, Int.toNat_natCast, Option.isNone_none, Option.isNone_some, Bool.not_true, Bool.not_false, Bool.xor_true, Bool.xor_false, Bool.true_xor, Bool.false_xor, decide_true, decide_false, Bool.and_true, Bool.true_and, Bool.and_false, Bool.false_and, eq_self, ne_eq, not_false_eq_true, not_true_eq_false, true_and, and_true, and_self]
    refine scall_in 16 _ Try.func81 rfl Try.ntmps81 Try.results81 Try.call81 ?_
    simp only [go_sem, ↓reduceIte, Nat.reduceEqDiff, Nat.reduceLT, Nat.reduceLeDiff, Nat.reduceAdd, Nat.reduceMul, Nat.reduceSub, Nat.reduceDiv, Nat.reduceMod, Int.reduceToNat, Int.reduceLT, Int.reduceLE, Int.reduceAdd, Int.reduceSub, Int.reduceMul, Int.reduceEq, Int.reduceNeg, reduceCtorEq, or_false, false_or, decide_true, decide_false, Int.cast_ofNat_Int, Nat.zero_add, Nat.add_zero, Int.toNat_natCast, Option.isNone_none, Option.isNone_some, Bool.not_true, Bool.not_false, Bool.xor_true, Bool.xor_false, Bool.true_xor, Bool.false_xor, decide_true, decide_false, Bool.and_true, Bool.true_and, Bool.and_false, Bool.false_and, eq_self, ne_eq, not_false_eq_true, not_true_eq_false, true_and, and_true, and_self, d1, d3]
    refine fun ρ a w' hs hag => ?_
    obtain ⟨fp', h1, h2⟩ := tab_ends (T' := T) (S' := S) hS hfp hs hag rfl rfl (fun i _ => map_v _ _) (fun i _ => .inl ⟨rfl, rfl⟩)
    exact ⟨fp', by simp [SV.den, SV.denL, CV.den, CV.denL, ownV, ownB, ownW, isWs, zw, One.ws, d2], h1, h2⟩
  obtain ⟨d2, k, rfl, hk1, hk⟩ := inS_of h1 h2
  have d1 : decide ((k : Int) < 1) = false := by simp [h1]
  have d3 : decide (8 < (k : Int)) = false := by simp [h2]
  have d4 : (0 : Int) ≤ k ∧ (k : Int) < 9 := by omega
  rcases hop : (T k).op with _ | ⟨sn, ws⟩
  · have hi : (T k).is = false := by simp [One.is, hop]
    have hrow := row_eq T S k
    refine tab_callsS hS hfp 32 _ Try.func30 rfl Try.ntmps30 Try.results30 [.c (.p 0 0 0), .c (.v (.int .i64 k)), .c (.v (.string b)), .c (.v (.string key))] (by simp) (fun ρ h => by simp [SV.denL, SV.den, CV.den, CV.denL, h]) ?_
    simp only [go_sem, ↓reduceIte, Nat.reduceEqDiff, Nat.reduceLT, Nat.reduceLeDiff, Nat.reduceAdd, Nat.reduceMul, Nat.reduceSub, Nat.reduceDiv, Nat.reduceMod, Int.reduceToNat, Int.reduceLT, Int.reduceLE, Int.reduceAdd, Int.reduceSub, Int.reduceMul, Int.reduceEq, Int.reduceNeg, reduceCtorEq, or_false, false_or, decide_true, decide_false, Int.cast_ofNat_Int, Nat.zero_add, Nat.add_zero, Int.toNat_natCast, Option.isNone_none, Option.isNone_some, Bool.not_true, Bool.not_false, Bool.xor_true, Bool.xor_false, Bool.true_xor, Bool.false_xor, decide_true, decide_false, Bool.and_true, Bool.true_and, Bool.and_false, Bool.false_and, eq_self, ne_eq, not_false_eq_true, not_true_eq_false, true_and, and_true, and_self]
    refine scall_in 23 _ Try.func84 rfl Try.ntmps84 Try.results84 Try.call84 ?_
    simp only [go_sem, ↓reduceIte, Nat.reduceEqDiff, Nat.reduceLT, Nat.reduceLeDiff, Nat.reduceAdd, Nat.reduceMul, Nat.reduceSub, Nat.reduceDiv, Nat.reduceMod, Int.reduceToNat, Int.reduceLT, Int.reduceLE, Int.reduceAdd, Int.reduceSub, Int.reduceMul, Int.reduceEq, Int.reduceNeg, reduceCtorEq, or_false, false_or, decide_true, decide_false, Int.cast_ofNat_Int, Nat.zero_add, Nat.add_zero, Int.toNat_natCast, Option.isNone_none, Option.isNone_some, Bool.not_true, Bool.not_false, Bool.xor_true, Bool.xor_false, Bool.true_xor, Bool.false_xor, decide_true, decide_false, Bool.and_true, Bool.true_and, Bool.and_false, Bool.false_and, eq_self, ne_eq, not_false_eq_true, not_true_eq_false, true_and, and_true, and_self]
    refine scall_in 16 _ Try.func81 rfl Try.ntmps81 Try.results81 Try.call81 ?_
    simp only [go_sem, ↓reduceIte, Nat.reduceEqDiff, Nat.reduceLT, Nat.reduceLeDiff, Nat.reduceAdd, Nat.reduceMul, Nat.reduceSub, Nat.reduceDiv, Nat.reduceMod, Int.reduceToNat, Int.reduceLT, Int.reduceLE, Int.reduceAdd, Int.reduceSub, Int.reduceMul, Int.reduceEq, Int.reduceNeg, reduceCtorEq, or_false, false_or, decide_true, decide_false, Int.cast_ofNat_Int, Nat.zero_add, Nat.add_zero, Int.toNat_natCast, Option.isNone_none, Option.isNone_some, Bool.not_true, Bool.not_false, Bool.xor_true, Bool.xor_false, Bool.true_xor, Bool.false_xor, decide_true, decide_false, Bool.and_true, Bool.true_and, Bool.and_false, Bool.false_and, eq_self, ne_eq, not_false_eq_true, not_true_eq_false, true_and, and_true, and_self, d1, d3, d4, hrow, hk, hi]
    refine fun ρ a w' hs hag => ?_
    obtain ⟨fp', h1, h2⟩ := tab_ends (T' := T) (S' := S) hS hfp hs hag rfl rfl (fun i _ => map_v _ _) (fun i _ => .inl ⟨rfl, rfl⟩)
    exact ⟨fp', by simp [SV.den, SV.denL, CV.den, CV.denL, ownV, ownB, ownW, isWs, zw, One.ws, d2, hop], h1, h2⟩
  obtain ⟨hi, hsn, hws⟩ := One.op_of hop
  rcases hSk : S k with _ | ⟨bl, cc⟩
  · have hwr := hS.wr k hk
    rw [hSk, hws] at hwr
    have hw0 : ws = [] := hwr
    subst hw0
    have hsl : (T k).sl (S k) = .slice none 0 0 := by simp [One.sl, hop, hSk, slv]
    have hrow : ((T k).row (S k)).map CV.v = [cu (T k).seen.a, cu (T k).seen.b, cu (T k).seen.c, cu (T k).seen.d, .v (.bool true), cu sn.a, cu sn.b, cu sn.c, cu sn.d, .v (.slice none 0 0)] := by rw [row_eq, hsl, hsn, hi]
    refine tab_callsS hS hfp 32 _ Try.func30 rfl Try.ntmps30 Try.results30 [.c (.p 0 0 0), .c (.v (.int .i64 k)), .c (.v (.string b)), .c (.v (.string key))] (by simp) (fun ρ h => by simp [SV.denL, SV.den, CV.den, CV.denL, h]) ?_
    simp only [go_sem, ↓reduceIte, Nat.reduceEqDiff, Nat.reduceLT, Nat.reduceLeDiff, Nat.reduceAdd, Nat.reduceMul, Nat.reduceSub, Nat.reduceDiv, Nat.reduceMod, Int.reduceToNat, Int.reduceLT, Int.reduceLE, Int.reduceAdd, Int.reduceSub, Int.reduceMul, Int.reduceEq, Int.reduceNeg, reduceCtorEq, or_false, false_or, decide_true, decide_false, Int.cast_ofNat_Int, Nat.zero_add, Nat.add_zero, Int.toNat_natCast, Option.isNone_none, Option.isNone_some, Bool.not_true, Bool.not_false, Bool.xor_true, Bool.xor_false, Bool.true_xor, Bool.false_xor, decide_true, decide_false, Bool.and_true, Bool.true_and, Bool.and_false, Bool.false_and, eq_self, ne_eq, not_false_eq_true, not_true_eq_false, true_and, and_true, and_self]
    refine scall_in 23 _ Try.func84 rfl Try.ntmps84 Try.results84 Try.call84 ?_
    simp only [go_sem, ↓reduceIte, Nat.reduceEqDiff, Nat.reduceLT, Nat.reduceLeDiff, Nat.reduceAdd, Nat.reduceMul, Nat.reduceSub, Nat.reduceDiv, Nat.reduceMod, Int.reduceToNat, Int.reduceLT, Int.reduceLE, Int.reduceAdd, Int.reduceSub, Int.reduceMul, Int.reduceEq, Int.reduceNeg, reduceCtorEq, or_false, false_or, decide_true, decide_false, Int.cast_ofNat_Int, Nat.zero_add, Nat.add_zero, Int.toNat_natCast, Option.isNone_none, Option.isNone_some, Bool.not_true, Bool.not_false, Bool.xor_true, Bool.xor_false, Bool.true_xor, Bool.false_xor, decide_true, decide_false, Bool.and_true, Bool.true_and, Bool.and_false, Bool.false_and, eq_self, ne_eq, not_false_eq_true, not_true_eq_false, true_and, and_true, and_self]
    refine scall_in 16 _ Try.func81 rfl Try.ntmps81 Try.results81 Try.call81 ?_
    simp only [go_sem, ↓reduceIte, Nat.reduceEqDiff, Nat.reduceLT, Nat.reduceLeDiff, Nat.reduceAdd, Nat.reduceMul, Nat.reduceSub, Nat.reduceDiv, Nat.reduceMod, Int.reduceToNat, Int.reduceLT, Int.reduceLE, Int.reduceAdd, Int.reduceSub, Int.reduceMul, Int.reduceEq, Int.reduceNeg, reduceCtorEq, or_false, false_or, decide_true, decide_false, Int.cast_ofNat_Int, Nat.zero_add, Nat.add_zero, Int.toNat_natCast, Option.isNone_none, Option.isNone_some, Bool.not_true, Bool.not_false, Bool.xor_true, Bool.xor_false, Bool.true_xor, Bool.false_xor, decide_true, decide_false, Bool.and_true, Bool.true_and, Bool.and_false, Bool.false_and, eq_self, ne_eq, not_false_eq_true, not_true_eq_false, true_and, and_true, and_self, d1, d3, d4, hrow, hk]
    refine scall_keep (.c (.v (.int .i64 (-1)))) Try.call86 (fun ρ a w' hs => ?_) rfl (fun _ _ _ => rfl) ?_
    · obtain ⟨e1, e2, e3⟩ := tx_of0 hs rfl hk (sn := sn) hrow
      have := find_c e3 b key
      simpa [SV.denL, SV.den, CV.den, e1, e2, Nat.add_assoc, findI] using this
    simp only [go_sem, ↓reduceIte, Nat.reduceEqDiff, Nat.reduceLT, Nat.reduceLeDiff, Nat.reduceAdd, Nat.reduceMul, Nat.reduceSub, Nat.reduceDiv, Nat.reduceMod, Int.reduceToNat, Int.reduceLT, Int.reduceLE, Int.reduceAdd, Int.reduceSub, Int.reduceMul, Int.reduceEq, Int.reduceNeg, reduceCtorEq, or_false, false_or, decide_true, decide_false, Int.cast_ofNat_Int, Nat.zero_add, Nat.add_zero, Int.toNat_natCast, Option.isNone_none, Option.isNone_some, Bool.not_true, Bool.not_false, Bool.xor_true, Bool.xor_false, Bool.true_xor, Bool.false_xor, decide_true, decide_false, Bool.and_true, Bool.true_and, Bool.and_false, Bool.false_and, eq_self, ne_eq, not_false_eq_true, not_true_eq_false, true_and, and_true, and_self, hrow, hk]
    refine fun ρ a w' hs hag => ?_
    obtain ⟨fp', h1, h2⟩ := tab_ends (T' := T) (S' := S) hS hfp hs hag rfl rfl (fun i _ => map_v _ _) (fun i _ => .inl ⟨rfl, rfl⟩)
    exact ⟨fp', by simp [SV.den, SV.denL, CV.den, CV.denL, ownV, ownB, ownW, isWs, zw, d2, hws], h1, h2⟩
  · have hwr := hS.wr k hk
    rw [hSk, hws] at hwr
    have hrow := rk_same T S k 1 ws.length cc
    refine txn_calls hS hfp hk hSk hop 32 _ Try.func30 rfl Try.ntmps30 Try.results30 [.c (.p 0 0 0), .c (.v (.int .i64 k)), .c (.v (.string b)), .c (.v (.string key))] (by simp) (fun ρ h => by simp [SV.denL, SV.den, CV.den, CV.denL, h]) ?_
    simp only [go_sem, ↓reduceIte, Nat.reduceEqDiff, Nat.reduceLT, Nat.reduceLeDiff, Nat.reduceAdd, Nat.reduceMul, Nat.reduceSub, Nat.reduceDiv, Nat.reduceMod, Int.reduceToNat, Int.reduceLT, Int.reduceLE, Int.reduceAdd, Int.reduceSub, Int.reduceMul, Int.reduceEq, Int.reduceNeg, reduceCtorEq, or_false, false_or, decide_true, decide_false, Int.cast_ofNat_Int, Nat.zero_add, Nat.add_zero, Int.toNat_natCast, Option.isNone_none, Option.isNone_some, Bool.not_true, Bool.not_false, Bool.xor_true, Bool.xor_false, Bool.true_xor, Bool.false_xor, decide_true, decide_false, Bool.and_true, Bool.true_and, Bool.and_false, Bool.false_and, eq_self, ne_eq, not_false_eq_true, not_true_eq_false, true_and, and_true, and_self]
    refine scall_in 23 _ Try.func84 rfl Try.ntmps84 Try.results84 Try.call84 ?_
    simp only [go_sem, ↓reduceIte, Nat.reduceEqDiff, Nat.reduceLT, Nat.reduceLeDiff, Nat.reduceAdd, Nat.reduceMul, Nat.reduceSub, Nat.reduceDiv, Nat.reduceMod, Int.reduceToNat, Int.reduceLT, Int.reduceLE, Int.reduceAdd, Int.reduceSub, Int.reduceMul, Int.reduceEq, Int.reduceNeg, reduceCtorEq, or_false, false_or, decide_true, decide_false, Int.cast_ofNat_Int, Nat.zero_add, Nat.add_zero, Int.toNat_natCast, Option.isNone_none, Option.isNone_some, Bool.not_true, Bool.not_false, Bool.xor_true, Bool.xor_false, Bool.true_xor, Bool.false_xor, decide_true, decide_false, Bool.and_true, Bool.true_and, Bool.and_false, Bool.false_and, eq_self, ne_eq, not_false_eq_true, not_true_eq_false, true_and, and_true, and_self]
    refine scall_in 16 _ Try.func81 rfl Try.ntmps81 Try.results81 Try.call81 ?_
    simp only [go_sem, ↓reduceIte, Nat.reduceEqDiff, Nat.reduceLT, Nat.reduceLeDiff, Nat.reduceAdd, Nat.reduceMul, Nat.reduceSub, Nat.reduceDiv, Nat.reduceMod, Int.reduceToNat, Int.reduceLT, Int.reduceLE, Int.reduceAdd, Int.reduceSub, Int.reduceMul, Int.reduceEq, Int.reduceNeg, reduceCtorEq, or_false, false_or, decide_true, decide_false, Int.cast_ofNat_Int, Nat.zero_add, Nat.add_zero, Int.toNat_natCast, Option.isNone_none, Option.isNone_some, Bool.not_true, Bool.not_false, Bool.xor_true, Bool.xor_false, Bool.true_xor, Bool.false_xor, decide_true, decide_false, Bool.and_true, Bool.true_and, Bool.and_false, Bool.false_and, eq_self, ne_eq, not_false_eq_true, not_true_eq_false, true_and, and_true, and_self, d1, d3, d4, hrow, hk, hi]
    refine scall_keep (.c (.v (.int .i64 (findI ws b key)))) Try.call86 (fun ρ a w' hs => ?_) rfl (fun _ _ _ => rfl) ?_
    · obtain ⟨e1, e2, e3⟩ := tx_of hs rfl rfl hk (sn := sn) (by rw [rk_same, hsn]) (fun j _ => map_v _ _) hwr.1
      have := find_c e3 b key
      simpa [SV.denL, SV.den, CV.den, e1, e2, Nat.add_assoc] using this
    rcases find_of (ws := ws) (b := b) (k := key) with ⟨i, x, e1, e2, e3, e4⟩ | ⟨e1, e3⟩
    · have hi2 : i < ws.length := (List.getElem?_eq_some_iff.1 e2).1
      have hr2 := wrow_eq e2
      have d5 : decide ((i : Int) < 0) = false := by simp
      have d6 : (0 : Int) ≤ i ∧ (i : Int) < ws.length := by omega
      simp only [go_sem, ↓reduceIte, Nat.reduceEqDiff, Nat.reduceLT, Nat.reduceLeDiff, Nat.reduceAdd, Nat.reduceMul, Nat.reduceSub, Nat.reduceDiv, Nat.reduceMod, Int.reduceToNat, Int.reduceLT, Int.reduceLE, Int.reduceAdd, Int.reduceSub, Int.reduceMul, Int.reduceEq, Int.reduceNeg, reduceCtorEq, or_false, false_or, decide_true, decide_false, Int.cast_ofNat_Int, Nat.zero_add, Nat.add_zero, Int.toNat_natCast, Option.isNone_none, Option.isNone_some, Bool.not_true, Bool.not_false, Bool.xor_true, Bool.xor_false, Bool.true_xor, Bool.false_xor, decide_true, decide_false, Bool.and_true, Bool.true_and, Bool.and_false, Bool.false_and, eq_self, ne_eq, not_false_eq_true, not_true_eq_false, true_and, and_true, and_self, e1, d5, d6, hr2, hi2, hrow, hk]
      refine fun ρ a w' hs hag => ?_
      obtain ⟨fp', h1, h2⟩ := txn_ends (sn := sn) (ws' := ws) hS hfp hk hs (by rw [hag 0 (show 0 < 3 by omega)]; rfl) 1 cc (by decide) rfl rfl 2 (by decide) (by decide) rfl (fun _ h => h) (fun _ h => h) (fun i hi hik => by simp only [rk, hik, if_false]; exact map_v _ _) (by
        have := hag 1 (show 1 < 3 by omega)
        simp [rk, One.row, One.sl, One.is, One.sn, hop, slv, CV.den, (hs.now.hp _ _ (mem_hget (n := 1) rfl)).1]) (fun j _ => map_v _ _) hwr.1
      rw [upd_self hop] at h1
      exact ⟨fp', by simp [SV.den, SV.denL, CV.den, CV.denL, ownV, ownB, ownW, isWs, zw, d2, hws, e3], h1, h2⟩
    · simp only [go_sem, ↓reduceIte, Nat.reduceEqDiff, Nat.reduceLT, Nat.reduceLeDiff, Nat.reduceAdd, Nat.reduceMul, Nat.reduceSub, Nat.reduceDiv, Nat.reduceMod, Int.reduceToNat, Int.reduceLT, Int.reduceLE, Int.reduceAdd, Int.reduceSub, Int.reduceMul, Int.reduceEq, Int.reduceNeg, reduceCtorEq, or_false, false_or, decide_true, decide_false, Int.cast_ofNat_Int, Nat.zero_add, Nat.add_zero, Int.toNat_natCast, Option.isNone_none, Option.isNone_some, Bool.not_true, Bool.not_false, Bool.xor_true, Bool.xor_false, Bool.true_xor, Bool.false_xor, decide_true, decide_false, Bool.and_true, Bool.true_and, Bool.and_false, Bool.false_and, eq_self, ne_eq, not_false_eq_true, not_true_eq_false, true_and, and_true, and_self, e1, hrow, hk]
      refine fun ρ a w' hs hag => ?_
      obtain ⟨fp', h1, h2⟩ := txn_ends (sn := sn) (ws' := ws) hS hfp hk hs (by rw [hag 0 (show 0 < 3 by omega)]; rfl) 1 cc (by decide) rfl rfl 2 (by decide) (by decide) rfl (fun _ h => h) (fun _ h => h) (fun i hi hik => by simp only [rk, hik, if_false]; exact map_v _ _) (by
        have := hag 1 (show 1 < 3 by omega)
        simp [rk, One.row, One.sl, One.is, One.sn, hop, slv, CV.den, (hs.now.hp _ _ (mem_hget (n := 1) rfl)).1]) (fun j _ => map_v _ _) hwr.1
      rw [upd_self hop] at h1
      exact ⟨fp', by simp [SV.den, SV.denL, CV.den, CV.denL, ownV, ownB, ownW, isWs, zw, d2, hws, e3], h1, h2⟩
end Go.Proofs.Ytfokingbglkmjaa
