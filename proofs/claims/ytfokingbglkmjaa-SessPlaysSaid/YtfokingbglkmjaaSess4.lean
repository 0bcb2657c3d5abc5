/-
  What a transaction has written: found, read, told. Conditions: none.
-/
import Derived.Test.YtfokingbglkmjaaSess3
namespace Go.Proofs.Ytfokingbglkmjaa
open Go.RowKit Go.Sx
set_option linter.unusedVariables false
set_option linter.unusedSimpArgs false

def hit (b k : ByteArray) (w : Wr) : Bool := decide (w.b = b) && decide (w.k = k)
def findI (ws : List Wr) (b k : ByteArray) : Int := match ws.findIdx? (hit b k) with | some i => i | none => -1
theorem findI_none {ws : List Wr} {b k : ByteArray} (h : ∀ (j : Nat) (x : Wr), ws[j]? = some x → hit b k x = false) : findI ws b k = -1 := by
  have : ws.findIdx? (hit b k) = none := by
    rw [List.findIdx?_eq_none_iff]
    intro x hx
    obtain ⟨j, hj⟩ := List.getElem?_of_mem hx
    exact h j x hj
  simp [findI, this]
theorem findI_some {ws : List Wr} {b k : ByteArray} {i : Nat} {x : Wr} (hi : ws[i]? = some x) (hx : hit b k x = true) (h : ∀ (j : Nat) (x : Wr), j < i → ws[j]? = some x → hit b k x = false) : findI ws b k = i := by
  have : ws.findIdx? (hit b k) = some i := by
    rw [List.findIdx?_eq_some_iff_getElem]
    obtain ⟨hl, he⟩ := List.getElem?_eq_some_iff.1 hi
    exact ⟨hl, by rw [he]; exact hx, fun j hj => by
      have := h j _ hj (List.getElem?_eq_getElem (by omega))
      simp [this]⟩
  simp [findI, this]

/-- A transaction, in memory. -/
def TxAt (w : World) (g o : Nat) (sn : V4) (ws : List Wr) (s : Option (Nat × Nat)) : Prop :=
  (∀ q, q < 5 → w.cell? ⟨g, o + q, none⟩ = [vu sn.a, vu sn.b, vu sn.c, vu sn.d, slv s ws.length][q]?) ∧ WrAt s ws w
def wrow (ws : List Wr) (j : Nat) : List Value := ((ws[j]?).map Wr.l).getD []
theorem wrow_eq {ws : List Wr} {j : Nat} {x : Wr} (h : ws[j]? = some x) : (wrow ws j).map CV.v = [.v (.string x.b), .v (.string x.k), .v (.string x.x), .v (.bool x.g)] := by simp [wrow, h, Wr.l]

/-- A walk that reads a transaction that has written nothing. -/
theorem tx_calls0 {f : FuncId} {fn : Func} {c : Code} {args : Array Value} {w : World} {R : Ending → World → Prop} {g o : Nat} {sn : V4} {ws : List Wr} (ht : TxAt w g o sn ws none) (n : Nat) (rs : List ResultVar) (hf : Try.prog.funcs[f]? = some fn) (hb : fn.body = some c) (hn : fn.ntmps = n) (hr : fn.results = rs.toArray)
    (xs : List SV) (hl : xs.length ≤ n) (ha : ∀ ρ' : Env, ρ' 0 = ⟨g, o, 5⟩ → args.toList = SV.denL ρ' xs)
    (h : X Try.prog ⟨w, fun _ => False, n, 2, fun k => ⟨g, o, 5⟩⟩ c (retQ Try.prog ⟨w, fun _ => False, n, 2, fun k => ⟨g, o, 5⟩⟩ rs R) ⟨frOf 0 xs, [(0, .imm 5 1 fun _ => [cu sn.a, cu sn.b, cu sn.c, cu sn.d, .v (.slice none 0 0)])], 2⟩) : Calls Try.prog f args w R := by
  have hg : g < w.heap.size := by
    have := ht.1 0 (by omega)
    unfold World.cell? at this
    cases hh : w.heap[g]? with
    | none => simp [hh] at this
    | some x => exact (Array.getElem?_eq_some_iff.1 hh).1
  refine calls_of (fun _ => False) n rs hf hb hn hr xs _ 2 (fun k => ⟨g, o, 5⟩) hl (fun ρ' hρ => ha ρ' (hρ 0 (by omega))) (fun ρ' hρ => ⟨fun m b hm => ?_, ?_⟩) (fun m b hm => ?_) (by simp) h
  · simp only [List.mem_cons, Prod.mk.injEq, List.not_mem_nil, or_false] at hm
    obtain ⟨rfl, rfl⟩ := hm
    refine ⟨by rw [hρ 0 (by omega)], fun i hi => ⟨rfl, fun q hq => ?_⟩, fun _ => by rw [hρ 0 (by omega)]; exact ⟨hg, fun h => h⟩⟩
    have : i = 0 := by omega
    subst this
    rw [hρ 0 (by omega)]
    simp only [Nat.zero_mul, Nat.add_zero]
    rw [ht.1 q hq, ← List.getElem?_map]; rfl
  · simp [footL, Blk.foot]
  · simp only [List.mem_cons, Prod.mk.injEq, List.not_mem_nil, or_false] at hm
    omega
/-- .. or something. -/
theorem tx_calls1 {f : FuncId} {fn : Func} {c : Code} {args : Array Value} {w : World} {R : Ending → World → Prop} {g o b cc : Nat} {sn : V4} {ws : List Wr} (ht : TxAt w g o sn ws (some (b, cc))) (n : Nat) (rs : List ResultVar) (hf : Try.prog.funcs[f]? = some fn) (hb : fn.body = some c) (hn : fn.ntmps = n) (hr : fn.results = rs.toArray)
    (xs : List SV) (hl : xs.length ≤ n) (ha : ∀ ρ' : Env, ρ' 0 = ⟨g, o, 5⟩ → args.toList = SV.denL ρ' xs)
    (h : X Try.prog ⟨w, fun _ => False, n, 2, fun k => if k = 0 then ⟨g, o, 5⟩ else ⟨b, 0, 4⟩⟩ c (retQ Try.prog ⟨w, fun _ => False, n, 2, fun k => if k = 0 then ⟨g, o, 5⟩ else ⟨b, 0, 4⟩⟩ rs R) ⟨frOf 0 xs, [(0, .imm 5 1 fun _ => [cu sn.a, cu sn.b, cu sn.c, cu sn.d, .s 1 0 ws.length cc]), (1, .imm 4 ws.length fun j => (wrow ws j).map .v)], 2⟩) : Calls Try.prog f args w R := by
  have hg : g < w.heap.size := by
    have := ht.1 0 (by omega)
    unfold World.cell? at this
    cases hh : w.heap[g]? with
    | none => simp [hh] at this
    | some x => exact (Array.getElem?_eq_some_iff.1 hh).1
  refine calls_of (fun _ => False) n rs hf hb hn hr xs _ 2 (fun k => if k = 0 then ⟨g, o, 5⟩ else ⟨b, 0, 4⟩) hl (fun ρ' hρ => ha ρ' (hρ 0 (by omega))) (fun ρ' hρ => ⟨fun m b' hm => ?_, ?_⟩) (fun m b' hm => ?_) (by simp) h
  · simp only [List.mem_cons, Prod.mk.injEq, List.not_mem_nil, or_false] at hm
    have r0 := hρ 0 (by omega)
    have r1 := hρ 1 (by omega)
    simp only [if_true, Nat.one_ne_zero, if_false] at r0 r1
    rcases hm with ⟨rfl, rfl⟩ | ⟨rfl, rfl⟩
    · refine ⟨by rw [r0], fun i hi => ⟨rfl, fun q hq => ?_⟩, fun _ => by rw [r0]; exact ⟨hg, fun h => h⟩⟩
      have : i = 0 := by omega
      subst this
      rw [r0]
      simp only [Nat.zero_mul, Nat.add_zero]
      rw [ht.1 q hq, ← List.getElem?_map]
      simp [slv, CV.den, r1]
    · obtain ⟨_, arr, h1, h2, h3⟩ := ht.2
      refine ⟨by rw [r1], fun i hi => ?_, fun _ => by rw [r1]; exact ⟨(Array.getElem?_eq_some_iff.1 h1).1, fun h => h⟩⟩
      obtain ⟨h4, h5⟩ := h3 i hi
      refine ⟨by simpa [wrow] using h4, fun q hq => ?_⟩
      rw [← List.getElem?_map, map_v]
      rw [r1]
      simp only [World.cell?, h1, Nat.zero_add]
      have := h5 q hq
      simp only [wrow]
      rw [← this]
      simp
  · simp [footL, Blk.foot]
  · simp only [List.mem_cons, Prod.mk.injEq, List.not_mem_nil, or_false] at hm
    omega

theorem find_c {w : World} {g o : Nat} {sn : V4} {ws : List Wr} {s : Option (Nat × Nat)} (h : TxAt w g o sn ws s) (b key : ByteArray) :
    Calls Try.prog 86 #[.pointer (some ⟨g, o, none⟩), .string b, .string key] w fun e w' => e = .returned (.int .i64 (findI ws b key)) ∧ Below w.heap.size w w' := by
  cases s with
  | none =>
    have hws : ws = [] := h.2
    subst hws
    refine tx_calls0 h 13 _ Try.func86 rfl Try.ntmps86 Try.results86 [.c (.p 0 0 0), .c (.v (.string b)), .c (.v (.string key))] (by simp) (fun ρ h => by simp [SV.denL, SV.den, CV.den, h]) ?_
    simp only [go_sem, ↓reduceIte, Nat.reduceEqDiff, Nat.reduceLT, Nat.reduceLeDiff, Nat.reduceAdd, Nat.reduceMul, Nat.reduceSub, Nat.reduceDiv, Nat.reduceMod, Int.reduceToNat, Int.reduceLT, Int.reduceLE, Int.reduceAdd, Int.reduceSub, Int.reduceMul, Int.reduceEq, Int.reduceNeg, reduceCtorEq, or_false, false_or, decide_true, decide_false, Int.cast_ofNat_Int, Nat.zero_add, Nat.add_zero, Int.toNat_natCast, Option.isNone_none, Option.isNone_some, Bool.not_true, Bool.not_false, Bool.xor_true, Bool.xor_false, Bool.true_xor, Bool.false_xor, decide_true, decide_false, Bool.and_true, Bool.true_and, Bool.and_false, Bool.false_and, eq_self, ne_eq, not_false_eq_true, not_true_eq_false, true_and, and_true, and_self]
    refine scall_in 19 _ Try.func124 rfl Try.ntmps124 Try.results124 Try.call124 ?_
    simp only [go_sem, ↓reduceIte, Nat.reduceEqDiff, Nat.reduceLT, Nat.reduceLeDiff, Nat.reduceAdd, Nat.reduceMul, Nat.reduceSub, Nat.reduceDiv, Nat.reduceMod, Int.reduceToNat, Int.reduceLT, Int.reduceLE, Int.reduceAdd, Int.reduceSub, Int.reduceMul, Int.reduceEq, Int.reduceNeg, reduceCtorEq, or_false, false_or, decide_true, decide_false, Int.cast_ofNat_Int, Nat.zero_add, Nat.add_zero, Int.toNat_natCast, Option.isNone_none, Option.isNone_some, Bool.not_true, Bool.not_false, Bool.xor_true, Bool.xor_false, Bool.true_xor, Bool.false_xor, decide_true, decide_false, Bool.and_true, Bool.true_and, Bool.and_false, Bool.false_and, eq_self, ne_eq, not_false_eq_true, not_true_eq_false, true_and, and_true, and_self]
    refine sloop_rounds 1 ?_
    simp only [go_sem, ↓reduceIte, Nat.reduceEqDiff, Nat.reduceLT, Nat.reduceLeDiff, Nat.reduceAdd, Nat.reduceMul, Nat.reduceSub, Nat.reduceDiv, Nat.reduceMod, Int.reduceToNat, Int.reduceLT, Int.reduceLE, Int.reduceAdd, Int.reduceSub, Int.reduceMul, Int.reduceEq, Int.reduceNeg, reduceCtorEq, or_false, false_or, decide_true, decide_false, Int.cast_ofNat_Int, Nat.zero_add, Nat.add_zero, Int.toNat_natCast, Option.isNone_none, Option.isNone_some, Bool.not_true, Bool.not_false, Bool.xor_true, Bool.xor_false, Bool.true_xor, Bool.false_xor, decide_true, decide_false, Bool.and_true, Bool.true_and, Bool.and_false, Bool.false_and, eq_self, ne_eq, not_false_eq_true, not_true_eq_false, true_and, and_true, and_self]
    refine fun ρ a w hs _ => ⟨by simp [SV.den, CV.den, findI], hs.grown⟩
  | some p =>
    obtain ⟨bl, cc⟩ := p
    have hlen : ws.length ≤ 8 := h.2.1.1
    refine tx_calls1 h 13 _ Try.func86 rfl Try.ntmps86 Try.results86 [.c (.p 0 0 0), .c (.v (.string b)), .c (.v (.string key))] (by simp) (fun ρ h => by simp [SV.denL, SV.den, CV.den, h]) ?_
    simp only [go_sem, ↓reduceIte, Nat.reduceEqDiff, Nat.reduceLT, Nat.reduceLeDiff, Nat.reduceAdd, Nat.reduceMul, Nat.reduceSub, Nat.reduceDiv, Nat.reduceMod, Int.reduceToNat, Int.reduceLT, Int.reduceLE, Int.reduceAdd, Int.reduceSub, Int.reduceMul, Int.reduceEq, Int.reduceNeg, reduceCtorEq, or_false, false_or, decide_true, decide_false, Int.cast_ofNat_Int, Nat.zero_add, Nat.add_zero, Int.toNat_natCast, Option.isNone_none, Option.isNone_some, Bool.not_true, Bool.not_false, Bool.xor_true, Bool.xor_false, Bool.true_xor, Bool.false_xor, decide_true, decide_false, Bool.and_true, Bool.true_and, Bool.and_false, Bool.false_and, eq_self, ne_eq, not_false_eq_true, not_true_eq_false, true_and, and_true, and_self]
    refine scall_in 19 _ Try.func124 rfl Try.ntmps124 Try.results124 Try.call124 ?_
    simp only [go_sem, ↓reduceIte, Nat.reduceEqDiff, Nat.reduceLT, Nat.reduceLeDiff, Nat.reduceAdd, Nat.reduceMul, Nat.reduceSub, Nat.reduceDiv, Nat.reduceMod, Int.reduceToNat, Int.reduceLT, Int.reduceLE, Int.reduceAdd, Int.reduceSub, Int.reduceMul, Int.reduceEq, Int.reduceNeg, reduceCtorEq, or_false, false_or, decide_true, decide_false, Int.cast_ofNat_Int, Nat.zero_add, Nat.add_zero, Int.toNat_natCast, Option.isNone_none, Option.isNone_some, Bool.not_true, Bool.not_false, Bool.xor_true, Bool.xor_false, Bool.true_xor, Bool.false_xor, decide_true, decide_false, Bool.and_true, Bool.true_and, Bool.and_false, Bool.false_and, eq_self, ne_eq, not_false_eq_true, not_true_eq_false, true_and, and_true, and_self]
    refine sloop (fun p : Nat × Nat => ⟨[(8, .c (.v (.int .i64 (p.1 : Nat)))), (7, .c (.v (.int .i64 ws.length))), (4, .c (.v (.int .i64 0))), (0, .c (.s 1 0 ws.length cc)), (1, .c (.fn 125 [.p 2 0 0, .p 3 0 0]))], [(3, .cells 9 [.v (.string key)]), (2, .cells 9 [.v (.string b)]), (0, .imm 5 1 fun _ => [cu sn.a, cu sn.b, cu sn.c, cu sn.d, .s 1 0 ws.length cc]), (1, .imm 4 ws.length fun j => (wrow ws j).map .v)], p.2⟩)
      (fun p => p.1 ≤ ws.length ∧ 4 ≤ p.2 ∧ ∀ j x, j < p.1 → ws[j]? = some x → hit b key x = false) (fun p => ws.length - p.1) (0, 4) ⟨by simp, by simp, fun j x hj => by simp at hj⟩ (ent_drop ⟨rfl, rfl, rfl, rfl, rfl, trivial⟩ ⟨rfl, rfl, rfl, rfl, trivial⟩ (by simp)) (fun p hp => ?_)
    obtain ⟨i, m⟩ := p
    obtain ⟨hp, hm, hno⟩ : i ≤ ws.length ∧ 4 ≤ m ∧ ∀ j x, j < i → ws[j]? = some x → hit b key x = false := hp
    have b0 : Nat.beq m 0 = false := beq_no (by omega)
    have b1 : Nat.beq m 1 = false := beq_no (by omega)
    have b2 : Nat.beq m 2 = false := beq_no (by omega)
    have b3 : Nat.beq m 3 = false := beq_no (by omega)
    have n0 : (m = 0) = False := by simp; omega
    have n1 : (m = 1) = False := by simp; omega
    have n2 : (m = 2) = False := by simp; omega
    have n3 : (m = 3) = False := by simp; omega
    by_cases hi : i < ws.length
    · have d1 : decide ((i : Int) < ws.length) = true := by simp; omega
      have d2 : (0 : Int) ≤ i ∧ (i : Int) < ws.length := by omega
      have w1 : IntKind.i64.wrap ((i : Int) + 1) = ((i + 1 : Nat) : Int) := wrap_i64 _ (by omega) (by omega)
      obtain ⟨x, hx⟩ : ∃ x, ws[i]? = some x := ⟨_, List.getElem?_eq_getElem hi⟩
      have hrow := wrow_eq hx
      simp only [go_sem, ↓reduceIte, Nat.reduceEqDiff, Nat.reduceLT, Nat.reduceLeDiff, Nat.reduceAdd, Nat.reduceMul, Nat.reduceSub, Nat.reduceDiv, Nat.reduceMod, Int.reduceToNat, Int.reduceLT, Int.reduceLE, Int.reduceAdd, Int.reduceSub, Int.reduceMul, Int.reduceEq, Int.reduceNeg, reduceCtorEq, or_false, false_or, decide_true, decide_false, Int.cast_ofNat_Int, Nat.zero_add, Nat.add_zero, Int.toNat_natCast, Option.isNone_none, Option.isNone_some, Bool.not_true, Bool.not_false, Bool.xor_true, Bool.xor_false, Bool.true_xor, Bool.false_xor, decide_true, decide_false, Bool.and_true, Bool.true_and, Bool.and_false, Bool.false_and, eq_self, ne_eq, not_false_eq_true, not_true_eq_false, true_and, and_true, and_self, d1, d2, hrow, hi]
      refine scall_in 15 _ Try.func125 rfl Try.ntmps125 Try.results125 Try.call125 ?_
      cases e1 : decide (x.b = b)
      · cases e2 : decide (x.k = key)
        all_goals
          simp only [go_sem, ↓reduceIte, Nat.reduceEqDiff, Nat.reduceLT, Nat.reduceLeDiff, Nat.reduceAdd, Nat.reduceMul, Nat.reduceSub, Nat.reduceDiv, Nat.reduceMod, Int.reduceToNat, Int.reduceLT, Int.reduceLE, Int.reduceAdd, Int.reduceSub, Int.reduceMul, Int.reduceEq, Int.reduceNeg, reduceCtorEq, or_false, false_or, decide_true, decide_false, Int.cast_ofNat_Int, Nat.zero_add, Nat.add_zero, Int.toNat_natCast, Option.isNone_none, Option.isNone_some, Bool.not_true, Bool.not_false, Bool.xor_true, Bool.xor_false, Bool.true_xor, Bool.false_xor, decide_true, decide_false, Bool.and_true, Bool.true_and, Bool.and_false, Bool.false_and, eq_self, ne_eq, not_false_eq_true, not_true_eq_false, true_and, and_true, and_self, e1, e2, w1, n0, n1, n2, n3]
          refine ⟨(i + 1, _), ⟨by show i + 1 ≤ ws.length; omega, by show 4 ≤ m + 1; omega, fun j y hj hy => ?_⟩, by show ws.length - (i + 1) < ws.length - i; omega, ent_drop ⟨rfl, rfl, rfl, rfl, rfl, trivial⟩ ⟨by simp only [hget, b3, cond_false]; rfl, by simp only [hget, b2, cond_false]; rfl, by simp only [hget, b0, cond_false]; rfl, by simp only [hget, b1, cond_false]; rfl, trivial⟩ (by simp)⟩
          rcases Nat.lt_or_eq_of_le (show j ≤ i from Nat.le_of_lt_succ hj) with hj | rfl
          · exact hno j y hj hy
          · rw [hx] at hy; injection hy with hy; subst hy; simp [hit, e1, e2]
      · cases e2 : decide (x.k = key)
        · simp only [go_sem, ↓reduceIte, Nat.reduceEqDiff, Nat.reduceLT, Nat.reduceLeDiff, Nat.reduceAdd, Nat.reduceMul, Nat.reduceSub, Nat.reduceDiv, Nat.reduceMod, Int.reduceToNat, Int.reduceLT, Int.reduceLE, Int.reduceAdd, Int.reduceSub, Int.reduceMul, Int.reduceEq, Int.reduceNeg, reduceCtorEq, or_false, false_or, decide_true, decide_false, Int.cast_ofNat_Int, Nat.zero_add, Nat.add_zero, Int.toNat_natCast, Option.isNone_none, Option.isNone_some, Bool.not_true, Bool.not_false, Bool.xor_true, Bool.xor_false, Bool.true_xor, Bool.false_xor, decide_true, decide_false, Bool.and_true, Bool.true_and, Bool.and_false, Bool.false_and, eq_self, ne_eq, not_false_eq_true, not_true_eq_false, true_and, and_true, and_self, e1, e2, w1, n0, n1, n2, n3]
          refine ⟨(i + 1, _), ⟨by show i + 1 ≤ ws.length; omega, by show 4 ≤ m + 1; omega, fun j y hj hy => ?_⟩, by show ws.length - (i + 1) < ws.length - i; omega, ent_drop ⟨rfl, rfl, rfl, rfl, rfl, trivial⟩ ⟨by simp only [hget, b3, cond_false]; rfl, by simp only [hget, b2, cond_false]; rfl, by simp only [hget, b0, cond_false]; rfl, by simp only [hget, b1, cond_false]; rfl, trivial⟩ (by simp)⟩
          rcases Nat.lt_or_eq_of_le (show j ≤ i from Nat.le_of_lt_succ hj) with hj | rfl
          · exact hno j y hj hy
          · rw [hx] at hy; injection hy with hy; subst hy; simp [hit, e1, e2]
        · simp only [go_sem, ↓reduceIte, Nat.reduceEqDiff, Nat.reduceLT, Nat.reduceLeDiff, Nat.reduceAdd, Nat.reduceMul, Nat.reduceSub, Nat.reduceDiv, Nat.reduceMod, Int.reduceToNat, Int.reduceLT, Int.reduceLE, Int.reduceAdd, Int.reduceSub, Int.reduceMul, Int.reduceEq, Int.reduceNeg, reduceCtorEq, or_false, false_or, decide_true, decide_false, Int.cast_ofNat_Int, Nat.zero_add, Nat.add_zero, Int.toNat_natCast, Option.isNone_none, Option.isNone_some, Bool.not_true, Bool.not_false, Bool.xor_true, Bool.xor_false, Bool.true_xor, Bool.false_xor, decide_true, decide_false, Bool.and_true, Bool.true_and, Bool.and_false, Bool.false_and, eq_self, ne_eq, not_false_eq_true, not_true_eq_false, true_and, and_true, and_self, e1, e2, w1, n0, n1, n2, n3]
          have hf := findI_some hx (by simp [hit, e1, e2]) hno
          exact fun ρ a w hs _ => ⟨by simp [SV.den, CV.den, hf], hs.grown⟩
    · have hil : i = ws.length := by omega
      have d1 : decide ((i : Int) < ws.length) = false := by simp; omega
      simp only [go_sem, ↓reduceIte, Nat.reduceEqDiff, Nat.reduceLT, Nat.reduceLeDiff, Nat.reduceAdd, Nat.reduceMul, Nat.reduceSub, Nat.reduceDiv, Nat.reduceMod, Int.reduceToNat, Int.reduceLT, Int.reduceLE, Int.reduceAdd, Int.reduceSub, Int.reduceMul, Int.reduceEq, Int.reduceNeg, reduceCtorEq, or_false, false_or, decide_true, decide_false, Int.cast_ofNat_Int, Nat.zero_add, Nat.add_zero, Int.toNat_natCast, Option.isNone_none, Option.isNone_some, Bool.not_true, Bool.not_false, Bool.xor_true, Bool.xor_false, Bool.true_xor, Bool.false_xor, decide_true, decide_false, Bool.and_true, Bool.true_and, Bool.and_false, Bool.false_and, eq_self, ne_eq, not_false_eq_true, not_true_eq_false, true_and, and_true, and_self, d1]
      have hf : findI ws b key = -1 := findI_none fun j x hj => hno j x (by have := (List.getElem?_eq_some_iff.1 hj).1; omega) hj
      exact fun ρ a w hs _ => ⟨by simp [SV.den, CV.den, hf], hs.grown⟩
end Go.Proofs.Ytfokingbglkmjaa
