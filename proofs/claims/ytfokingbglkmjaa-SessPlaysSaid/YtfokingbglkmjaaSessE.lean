/-
  A statement's writes: right, of few keys, or as they are. Conditions: none.
-/
import Derived.Test.YtfokingbglkmjaaSessD
namespace Go.Proofs.Ytfokingbglkmjaa
open Go.RowKit Go.Sx
set_option linter.unusedVariables false
set_option linter.unusedSimpArgs false

def pwr (x : Wr) (own : Bool) (k : Nat) : Wr :=
  if own then ⟨strB [98, 48 + ((k % 2 : Nat) : Int)], strB [97 + ((k / 2 % 4 : Nat) : Int)], if decide ((224 : Int) ≤ k) then ByteArray.empty else x.x.extract 0 (min x.x.size 8), decide ((224 : Int) ≤ k)⟩ else x
set_option maxRecDepth 100000 in
theorem pwrite_c (x : Wr) (own : Bool) (k : Nat) (hk : k < 256) (w : World) :
    Calls Try.prog 18 #[.agg #[.string x.b, .string x.k, .string x.x, .bool x.g, .bool own, .int .u8 k]] w fun e w' => e = .returned (pwr x own k).v ∧ Below w.heap.size w w' := by
  refine calls_pure 39 _ Try.func18 rfl Try.ntmps18 Try.results18 [.agg [.v (.string x.b), .v (.string x.k), .v (.string x.x), .v (.bool x.g), .v (.bool own), .v (.int .u8 k)]] (by simp) (fun _ => rfl) ?_
  cases own
  · simp only [go_sem, ↓reduceIte, Nat.reduceEqDiff, Nat.reduceLT, Nat.reduceLeDiff, Nat.reduceAdd, Nat.reduceMul, Nat.reduceSub, Nat.reduceDiv, Nat.reduceMod, Int.reduceToNat, Int.reduceLT, Int.reduceLE, Int.reduceAdd, Int.reduceSub, Int.reduceMul, Int.reduceEq, Int.reduceNeg, reduceCtorEq, or_false, false_or, decide_true, decide_false, Int.cast_ofNat_Int, Nat.zero_add, Nat.add_zero, Int.toNat_natCast, Option.isNone_none, Option.isNone_some, Bool.not_true, Bool.not_false, Bool.xor_true, Bool.xor_false, Bool.true_xor, Bool.false_xor, decide_true, decide_false, Bool.and_true, Bool.true_and, Bool.and_false, Bool.false_and, eq_self, ne_eq, not_false_eq_true, not_true_eq_false, true_and, and_true, and_self]
    exact fun ρ a w hs _ => ⟨rfl, hs.grown⟩
  · have a1 : (k : Int).tmod 2 = ((k % 2 : Nat) : Int) := rfl
    have a2 : IntKind.u8.wrap (48 + ((k % 2 : Nat) : Int)) = 48 + ((k % 2 : Nat) : Int) := wrap_u8 _ (by omega) (by omega)
    have a3 : IntKind.u8.wrap ((k : Int).tdiv 2) = ((k / 2 : Nat) : Int) := by rw [show (k : Int).tdiv 2 = ((k / 2 : Nat) : Int) from rfl]; exact wrap_u8 _ (by omega) (by omega)
    have a4 : (((k / 2 : Nat) : Int)).tmod 4 = ((k / 2 % 4 : Nat) : Int) := rfl
    have a5 : IntKind.u8.wrap (97 + ((k / 2 % 4 : Nat) : Int)) = 97 + ((k / 2 % 4 : Nat) : Int) := wrap_u8 _ (by omega) (by omega)
    obtain ⟨q, hq, hq2, hq3⟩ : ∃ q : Nat, min (x.x.size : Int) 8 = (q : Int) ∧ q = min x.x.size 8 ∧ q ≤ x.x.size := ⟨min x.x.size 8, by omega, by omega, by omega⟩
    have c5 : (0 : Int) ≤ q ∧ (q : Int) ≤ x.x.size := by omega
    have c6 : (0 : Int) ≤ 0 ∧ (0 : Int) ≤ q := by omega
    simp only [go_sem, ↓reduceIte, Nat.reduceEqDiff, Nat.reduceLT, Nat.reduceLeDiff, Nat.reduceAdd, Nat.reduceMul, Nat.reduceSub, Nat.reduceDiv, Nat.reduceMod, Int.reduceToNat, Int.reduceLT, Int.reduceLE, Int.reduceAdd, Int.reduceSub, Int.reduceMul, Int.reduceEq, Int.reduceNeg, reduceCtorEq, or_false, false_or, decide_true, decide_false, Int.cast_ofNat_Int, Nat.zero_add, Nat.add_zero, Int.toNat_natCast, Option.isNone_none, Option.isNone_some, Bool.not_true, Bool.not_false, Bool.xor_true, Bool.xor_false, Bool.true_xor, Bool.false_xor, decide_true, decide_false, Bool.and_true, Bool.true_and, Bool.and_false, Bool.false_and, eq_self, ne_eq, not_false_eq_true, not_true_eq_false, true_and, and_true, and_self]
    refine sdraw_ent0 [.t 0, .t 1, .t 2, .t 3, .t 6, .t 7, .t 8, .t 9, .t 10, .t 13, .t 14, .t 15, .t 16, .t 17, .t 18, .t 19, .t 20, .t 21, .t 22, .t 23, .t 24, .d 4 [.d 5 [.c 11 [.c 12 [.t 25, .r 26, .r 27] 26 [.r 12, .t 25, .r 27]] 26 [.r 11, .r 12, .t 25, .r 27]] 11 [.d 5 [.c 12 [.t 25, .r 26, .r 27] 26 [.r 12, .t 25, .r 27]] 12 [.c 5 [.t 25, .r 26, .r 27] 26 [.r 5, .t 25, .r 27]] 26 [.c 5 [.r 12, .t 25, .r 27] 12 [.r 5, .t 25, .r 27]]] 26 [.c 5 [.r 11, .r 12, .t 25, .r 27] 11 [.c 5 [.r 12, .t 25, .r 27] 12 [.r 5, .t 25, .r 27]]]] 11 [.d 4 [.d 5 [.c 12 [.t 25, .r 26, .r 27] 26 [.r 12, .t 25, .r 27]] 12 [.c 5 [.t 25, .r 26, .r 27] 26 [.r 5, .t 25, .r 27]] 26 [.c 5 [.r 12, .t 25, .r 27] 12 [.r 5, .t 25, .r 27]]] 12 [.c 4 [.c 5 [.t 25, .r 26, .r 27] 26 [.r 5, .t 25, .r 27]] 26 [.r 4, .r 5, .t 25, .r 27]] 26 [.c 4 [.c 5 [.r 12, .t 25, .r 27] 12 [.r 5, .t 25, .r 27]] 12 [.r 4, .r 5, .t 25, .r 27]]] 26 [.c 4 [.c 5 [.r 11, .r 12, .t 25, .r 27] 11 [.c 5 [.r 12, .t 25, .r 27] 12 [.r 5, .t 25, .r 27]]] 11 [.c 4 [.c 5 [.r 12, .t 25, .r 27] 12 [.r 5, .t 25, .r 27]] 12 [.r 4, .r 5, .t 25, .r 27]]]] 27 rfl (by kernel_rfl) ⟨[(3, .c (.p 2 0 0)), (2, .c (.p 1 0 0))], [(2, .cells 41 [.v (.string (strB [98, 48 + ((k % 2 : Nat) : Int)])), .v (.string (strB [97 + ((k / 2 % 4 : Nat) : Int)])), .v (.string (x.x.extract 0 q)), .v (.bool (decide ((224 : Int) ≤ k)))]), (1, .cells 41 [.v (.string .empty), .v (.string .empty), .v (.string .empty), .v (.bool false)])], 3⟩ ?h ?h1
    · simp only [go_sem, ↓reduceIte, Nat.reduceEqDiff, Nat.reduceLT, Nat.reduceLeDiff, Nat.reduceAdd, Nat.reduceMul, Nat.reduceSub, Nat.reduceDiv, Nat.reduceMod, Int.reduceToNat, Int.reduceLT, Int.reduceLE, Int.reduceAdd, Int.reduceSub, Int.reduceMul, Int.reduceEq, Int.reduceNeg, reduceCtorEq, or_false, false_or, decide_true, decide_false, Int.cast_ofNat_Int, Nat.zero_add, Nat.add_zero, Int.toNat_natCast, Option.isNone_none, Option.isNone_some, Bool.not_true, Bool.not_false, Bool.xor_true, Bool.xor_false, Bool.true_xor, Bool.false_xor, decide_true, decide_false, Bool.and_true, Bool.true_and, Bool.and_false, Bool.false_and, eq_self, ne_eq, not_false_eq_true, not_true_eq_false, true_and, and_true, and_self, a1, a2, a3, a4, a5, hq, c5, c6]
      have E : ∀ (n : Nat) {fr : List (Nat × SV)} {hp : List (Nat × Blk)} {nx : Nat} {C : Cx}, C.n0 = 0 → n = 2 ∨ n = 3 ∨ n = 4 → lk fr 3 = .c (.p n 0 0) → lk fr 2 = .c (.p 1 0 0) → hget hp n = some (.cells 41 [.v (.string (strB [98, 48 + ((k % 2 : Nat) : Int)])), .v (.string (strB [97 + ((k / 2 % 4 : Nat) : Int)])), .v (.string (x.x.extract 0 q)), .v (.bool (decide ((224 : Int) ≤ k)))]) → hget hp 1 = some (.cells 41 [.v (.string .empty), .v (.string .empty), .v (.string .empty), .v (.bool false)]) →
          Ent C ⟨fr, hp, nx⟩ ⟨[(3, .c (.p 2 0 0)), (2, .c (.p 1 0 0))], [(2, .cells 41 [.v (.string (strB [98, 48 + ((k % 2 : Nat) : Int)])), .v (.string (strB [97 + ((k / 2 % 4 : Nat) : Int)])), .v (.string (x.x.extract 0 q)), .v (.bool (decide ((224 : Int) ≤ k)))]), (1, .cells 41 [.v (.string .empty), .v (.string .empty), .v (.string .empty), .v (.bool false)])], 3⟩ := fun n fr hp nx C h0 hn e1 e2 e3 e4 => by
        refine ent_of (fun k => if k = 2 then n else k) ⟨⟨by simp [SV.bl, CV.bl], ?_⟩, ⟨by simp [SV.bl, CV.bl], ?_⟩, trivial⟩ ⟨⟨by simp, by simp [Blk.bl, CV.blL, CV.bl], ?_⟩, ⟨by simp, by simp [Blk.bl, CV.blL, CV.bl], ?_⟩, trivial⟩ (by simp; omega) (by omega) (fun k hk => by omega)
        · rw [e1]; rfl
        · rw [e2]; rfl
        · show hget hp n = _
          rw [e3]; rfl
        · show hget hp 1 = _
          rw [e4]; rfl
      repeat' apply And.intro
      all_goals first | exact E 2 rfl (by omega) rfl rfl rfl rfl | exact E 3 rfl (by omega) rfl rfl rfl rfl | exact E 4 rfl (by omega) rfl rfl rfl rfl
    · cases hg : decide ((224 : Int) ≤ k)
      all_goals
        simp only [go_sem, ↓reduceIte, Nat.reduceEqDiff, Nat.reduceLT, Nat.reduceLeDiff, Nat.reduceAdd, Nat.reduceMul, Nat.reduceSub, Nat.reduceDiv, Nat.reduceMod, Int.reduceToNat, Int.reduceLT, Int.reduceLE, Int.reduceAdd, Int.reduceSub, Int.reduceMul, Int.reduceEq, Int.reduceNeg, reduceCtorEq, or_false, false_or, decide_true, decide_false, Int.cast_ofNat_Int, Nat.zero_add, Nat.add_zero, Int.toNat_natCast, Option.isNone_none, Option.isNone_some, Bool.not_true, Bool.not_false, Bool.xor_true, Bool.xor_false, Bool.true_xor, Bool.false_xor, decide_true, decide_false, Bool.and_true, Bool.true_and, Bool.and_false, Bool.false_and, eq_self, ne_eq, not_false_eq_true, not_true_eq_false, true_and, and_true, and_self]
        exact fun ρ a w hs _ => ⟨by simp [SV.den, CV.den, CV.denL, pwr, hg, hq2] <;> rfl, hs.grown⟩

/-- A put of a statement: a write, whether it is right, of which key. -/
structure Pt where
  x : Wr
  own : Bool
  k : Nat
def Pt.row (p : Pt) : List CV := [.v (.string p.x.b), .v (.string p.x.k), .v (.string p.x.x), .v (.bool p.x.g), .v (.bool p.own), .v (.int .u8 p.k)]
theorem row_put {l : List Value} (h : FOk [.s, .s, .s, .b, .b, .i .u8] l) : ∃ p : Pt, p.k < 256 ∧ l.map CV.v = p.row := by
  match l, h with
  | [_, _, _, _, _, _], ⟨⟨b, rfl, _⟩, ⟨k, rfl, _⟩, ⟨x, rfl, _⟩, ⟨g, rfl⟩, ⟨o, rfl⟩, ⟨n, rfl, hw⟩, _⟩ =>
    obtain ⟨m, hm, rfl⟩ := u8_of hw
    exact ⟨⟨⟨b, k, x, g⟩, o, m⟩, hm, rfl⟩
/-- One put more. -/
def wone (whole : Bool) (p : Pt) : Wr := pwr p.x (whole || p.own) p.k
def wstep (whole : Bool) (out : List Wr) (p : Pt) : List Wr := if whole && out.any (hit (wone whole p).b (wone whole p).k) then out else out ++ [wone whole p]
def wouts (whole : Bool) (ps : Nat → Pt) : Nat → List Wr
  | 0 => []
  | n + 1 => wstep whole (wouts whole ps n) (ps n)
theorem wstep_len (whole : Bool) (out : List Wr) (p : Pt) : (wstep whole out p).length ≤ out.length + 1 := by
  unfold wstep; split <;> simp
theorem wouts_len (whole : Bool) (ps : Nat → Pt) : ∀ n, (wouts whole ps n).length ≤ n
  | 0 => by simp [wouts]
  | n + 1 => by
    have := wouts_len whole ps n
    have := wstep_len whole (wouts whole ps n) (ps n)
    simp only [wouts]; omega
/-- A list of writes, in memory. -/
def WlAt (s : Option (Nat × Nat)) (ws : List Wr) (w : World) : Prop := match s with
  | none => ws = []
  | some (b, c) => (ws.length ≤ c ∧ 0 < ws.length) ∧ RowsAt w b 41 4 ws.length c fun j => wrow ws j
/-- The state of the list that grows: nothing, or a block. -/
def outF (ws : List Wr) : Option Nat → CV
  | none => .v (.slice none 0 0)
  | some c => .s 1 0 ws.length c
def outH (ws : List Wr) : Option Nat → List (Nat × Blk)
  | none => []
  | some c => [(1, .rows 41 4 ws.length c fun j => (wrow ws j).map .v)]
def outN : Option Nat → Nat
  | none => 1
  | some _ => 2
def outI (x0 : CV) (most : Int) (whole : Bool) (m : Nat) (r : Nat → List Value) (i : Nat) (ws : List Wr) (c : Option Nat) : St :=
  ⟨[(8, .c (.v (.int .i64 i))), (7, .c (outF ws c)), (0, .c x0), (1, .c (.v (.int .i64 most))), (2, .c (.v (.bool whole)))], outH ws c ++ [(0, .imm 6 m fun i => (r i).map .v)], outN c⟩
def outOk (ws : List Wr) : Option Nat → Prop
  | none => ws = []
  | some c => ws.length ≤ c ∧ 0 < ws.length

theorem ent_out (n : Nat) {fr : List (Nat × SV)} {hp : List (Nat × Blk)} {nx : Nat} {C : Cx} {most : Int} {whole : Bool} {m c0 i len c : Nat} {r0 : Nat → List Value} {ws : List Wr} {r : Nat → List CV} (hC : C.n0 = 1) (hn : n ≠ 0) (f8 : lk fr 8 = .c (.v (.int .i64 i))) (f7 : lk fr 7 = .c (.s n 0 len c)) (f0 : lk fr 0 = .c (.s 0 0 m c0)) (f1 : lk fr 1 = .c (.v (.int .i64 most))) (f2 : lk fr 2 = .c (.v (.bool whole)))
    (hg : hget hp n = some (.rows 41 4 len c r)) (hlen : len = ws.length) (hr : ∀ j, j < len → (wrow ws j).map .v = r j) (hi : hget hp 0 = some (.imm 6 m fun i => (r0 i).map .v)) : Ent C ⟨fr, hp, nx⟩ (outI (.s 0 0 m c0) most whole m r0 i ws (some c)) := by
  subst hlen
  refine Ent.trans (ent_rows n hg hr) ?_
  have g1 : ∀ (hp : List (Nat × Blk)) (b : Blk), hget hp n = some (.rows 41 4 ws.length c r) → hget (hset hp n b) n = some b := fun hp b h => by
    induction hp with
    | nil => simp [hget] at h
    | cons x y ih =>
      obtain ⟨q, v⟩ := x
      rw [hget_cons] at h
      rw [hset_cons]
      by_cases hq : q = n
      · rw [if_pos hq, hget_cons, if_pos hq]
      · rw [if_neg hq, hget_cons, if_neg hq]; rw [if_neg hq] at h; exact ih h
  have g2 : ∀ (hp : List (Nat × Blk)) (b : Blk), hget (hset hp n b) 0 = hget hp 0 := fun hp b => by
    induction hp with
    | nil => rfl
    | cons x y ih =>
      obtain ⟨q, v⟩ := x
      rw [hset_cons]
      by_cases hq : q = n
      · rw [if_pos hq, hget_cons, hget_cons, if_neg (by omega), if_neg (by omega)]
      · rw [if_neg hq, hget_cons, hget_cons, ih]
  refine ent_of (fun k => if k = 1 then n else k) ⟨⟨trivial, ?_⟩, ⟨?_, ?_⟩, ⟨?_, ?_⟩, ⟨trivial, ?_⟩, ⟨trivial, ?_⟩, trivial⟩ ⟨⟨?_, ?_, ?_⟩, ⟨?_, ?_, ?_⟩, trivial⟩ ?_ ?_ fun k hk => ?_
  · rw [f8]; rfl
  · show 1 < 2; omega
  · rw [f7]; rfl
  · show 0 < 2; omega
  · rw [f0]; rfl
  · rw [f1]; rfl
  · rw [f2]; rfl
  · show 1 < 2; omega
  · intro j _; exact blL_v _ _
  · show hget _ n = _
    rw [g1 hp _ hg]
    simp [Blk.rn, CV.rnL_eq, Function.comp_def, CV.rn]
  · show 0 < 2; omega
  · intro j _; exact blL_v _ _
  · show hget _ 0 = _
    rw [g2, hi]
    simp [Blk.rn, CV.rnL_eq, Function.comp_def, CV.rn]
  · simp [outH]; omega
  · rw [hC]; simp [outN]
  · rw [hC] at hk
    show (if k = 1 then n else k) = k
    rw [if_neg (by omega)]

set_option maxRecDepth 100000 in
theorem writesL_c (w : World) {b0 o0 m0 : Nat} {r0 : Nat → List Value} {x0 : CV} {v0 : Value} (i0 : ImmAt w b0 o0 6 m0 r0) (l0 : LArg 0 m0 x0)
    (e0 : ∀ ρ : Env, ρ 0 = ⟨b0, o0, 6⟩ → x0.den ρ = v0) (ps : Nat → Pt) (f0 : ∀ i, i < m0 → (r0 i).map CV.v = (ps i).row ∧ (ps i).k < 256) (most : Nat) (hmost : most ≤ 100) (hm0 : m0 ≤ maxLen) (whole : Bool) :
    Calls Try.prog 41 #[v0, .int .i64 most, .bool whole] w fun e w' => ∃ i s, i ≤ m0 ∧ (i = m0 ∨ most ≤ (wouts whole ps i).length) ∧ (wouts whole ps i).length ≤ most ∧
      e = .returned (slv s (wouts whole ps i).length) ∧ WlAt s (wouts whole ps i) w' ∧ Below w.heap.size w w' ∧ ∀ b c, s = some (b, c) → w.heap.size ≤ b := by
  refine calls_imm [⟨b0, o0, 6, m0, r0⟩] (by simp; exact i0) 71 _ Try.func41 rfl Try.ntmps41 Try.results41 [.c x0, .c (.v (.int .i64 most)), .c (.v (.bool whole))] (by simp) (fun ρ h => by simp [SV.denL, SV.den, CV.den, e0 ρ (h 0 (by simp))]) ?_
  have n0 := l0.len
  unfold maxLen at hm0
  simp only [immL, List.length_cons, List.length_nil, Nat.zero_add, Nat.reduceAdd]
  simp only [go_sem, ↓reduceIte, Nat.reduceEqDiff, Nat.reduceLT, Nat.reduceLeDiff, Nat.reduceAdd, Nat.reduceMul, Nat.reduceSub, Nat.reduceDiv, Nat.reduceMod, Int.reduceToNat, Int.reduceLT, Int.reduceLE, Int.reduceAdd, Int.reduceSub, Int.reduceMul, Int.reduceEq, Int.reduceNeg, reduceCtorEq, or_false, false_or, decide_true, decide_false, Int.cast_ofNat_Int, Nat.zero_add, Nat.add_zero, Int.toNat_natCast, Option.isNone_none, Option.isNone_some, Bool.not_true, Bool.not_false, Bool.xor_true, Bool.xor_false, Bool.true_xor, Bool.false_xor, decide_true, decide_false, Bool.and_true, Bool.true_and, Bool.and_false, Bool.false_and, eq_self, ne_eq, not_false_eq_true, not_true_eq_false, true_and, and_true, and_self]
  refine sloop (fun p : Nat × Option Nat => outI x0 most whole m0 r0 p.1 (wouts whole ps p.1) p.2) (fun p => p.1 ≤ m0 ∧ outOk (wouts whole ps p.1) p.2 ∧ (wouts whole ps p.1).length ≤ most) (fun p => m0 - p.1) (0, none) ⟨by simp, rfl, by simp [wouts]⟩ (ent_drop ⟨rfl, rfl, rfl, rfl, rfl, trivial⟩ ⟨rfl, trivial⟩ (by simp [outH])) (fun p hp => ?_)
  obtain ⟨i, c⟩ := p
  obtain ⟨hi, hok, hle⟩ : i ≤ m0 ∧ outOk (wouts whole ps i) c ∧ (wouts whole ps i).length ≤ most := hp
  have hnext : wouts whole ps (i + 1) = wstep whole (wouts whole ps i) (ps i) := rfl
  obtain ⟨ws, hws⟩ : ∃ ws, wouts whole ps i = ws := ⟨_, rfl⟩
  rw [hws] at hok hle hnext
  show X _ _ _ _ (outI x0 most whole m0 r0 i (wouts whole ps i) c)
  rw [hws]
  have hlen : ∀ (e : TypeId) (F : SV → Prop), XLen (.slc e) (.c (outF ws c)) F = F (.c (.v (.int .i64 ws.length))) := fun e F => by
    cases c with
    | none => have h : ws = [] := hok; subst h; rfl
    | some c => rfl
  by_cases h : i < m0 ∧ ws.length < most
  · obtain ⟨h0, h1⟩ := h
    have d0 : decide ((i : Int) < m0) = true := by simp; omega
    have d1 : decide ((ws.length : Int) < most) = true := by simp; omega
    have d3 : (0 : Int) ≤ i ∧ (i : Int) < m0 := by omega
    have w1 : IntKind.i64.wrap ((i : Int) + 1) = ((i + 1 : Nat) : Int) := wrap_i64 _ (by omega) (by omega)
    obtain ⟨c0, rfl⟩ := l0.pos (by omega)
    obtain ⟨hrow0, hk⟩ := f0 i h0
    obtain ⟨W, hW⟩ : ∃ W, wone whole (ps i) = W := ⟨_, rfl⟩
    have hcall : ∀ w, Calls Try.prog 18 #[.agg #[.string (ps i).x.b, .string (ps i).x.k, .string (ps i).x.x, .bool (ps i).x.g, .bool (whole || (ps i).own), .int .u8 (ps i).k]] w fun e w' => e = .returned W.v ∧ Below w.heap.size w w' := fun w => by
      have := pwrite_c (ps i).x (whole || (ps i).own) (ps i).k hk w
      rw [show pwr (ps i).x (whole || (ps i).own) (ps i).k = W from hW] at this; exact this
    have hstep : wstep whole ws (ps i) = if whole && ws.any (hit W.b W.k) then ws else ws ++ [W] := by unfold wstep; rw [hW]
    clear hW
    cases c with
    | none =>
      have hw0 : ws = [] := hok
      subst hw0
      have d7 : decide ((0 : Int) < most) = true := by simp at h1 ⊢; omega
      have hstep : wouts whole ps (i + 1) = [W] := by rw [hnext, hstep]; simp
      simp only [outI, outF, outH, outN, List.nil_append]
      cases whole
      all_goals
        simp only [Bool.false_or, Bool.true_or] at hcall
        simp only [go_sem, ↓reduceIte, Nat.reduceEqDiff, Nat.reduceLT, Nat.reduceLeDiff, Nat.reduceAdd, Nat.reduceMul, Nat.reduceSub, Nat.reduceDiv, Nat.reduceMod, Int.reduceToNat, Int.reduceLT, Int.reduceLE, Int.reduceAdd, Int.reduceSub, Int.reduceMul, Int.reduceEq, Int.reduceNeg, reduceCtorEq, or_false, false_or, decide_true, decide_false, Int.cast_ofNat_Int, Nat.zero_add, Nat.add_zero, Int.toNat_natCast, Option.isNone_none, Option.isNone_some, Bool.not_true, Bool.not_false, Bool.xor_true, Bool.xor_false, Bool.true_xor, Bool.false_xor, decide_true, decide_false, Bool.and_true, Bool.true_and, Bool.and_false, Bool.false_and, eq_self, ne_eq, not_false_eq_true, not_true_eq_false, true_and, and_true, and_self, d0, d7, d3, hrow0, h0, n0, Pt.row]
        refine scall_pure [.agg #[.string (ps i).x.b, .string (ps i).x.k, .string (ps i).x.x, .bool (ps i).x.g, .bool _, .int .u8 (ps i).k]] (.agg [.v (.string W.b), .v (.string W.k), .v (.string W.x), .v (.bool W.g)]) W.v Try.call18 hcall rfl (fun _ => rfl) (fun _ => rfl) ?_
        simp only [go_sem, ↓reduceIte, Nat.reduceEqDiff, Nat.reduceLT, Nat.reduceLeDiff, Nat.reduceAdd, Nat.reduceMul, Nat.reduceSub, Nat.reduceDiv, Nat.reduceMod, Int.reduceToNat, Int.reduceLT, Int.reduceLE, Int.reduceAdd, Int.reduceSub, Int.reduceMul, Int.reduceEq, Int.reduceNeg, reduceCtorEq, or_false, false_or, decide_true, decide_false, Int.cast_ofNat_Int, Nat.zero_add, Nat.add_zero, Int.toNat_natCast, Option.isNone_none, Option.isNone_some, Bool.not_true, Bool.not_false, Bool.xor_true, Bool.xor_false, Bool.true_xor, Bool.false_xor, decide_true, decide_false, Bool.and_true, Bool.true_and, Bool.and_false, Bool.false_and, eq_self, ne_eq, not_false_eq_true, not_true_eq_false, true_and, and_true, and_self]
        refine sloop_rounds 1 ?_
        simp only [go_sem, ↓reduceIte, Nat.reduceEqDiff, Nat.reduceLT, Nat.reduceLeDiff, Nat.reduceAdd, Nat.reduceMul, Nat.reduceSub, Nat.reduceDiv, Nat.reduceMod, Int.reduceToNat, Int.reduceLT, Int.reduceLE, Int.reduceAdd, Int.reduceSub, Int.reduceMul, Int.reduceEq, Int.reduceNeg, reduceCtorEq, or_false, false_or, decide_true, decide_false, Int.cast_ofNat_Int, Nat.zero_add, Nat.add_zero, Int.toNat_natCast, Option.isNone_none, Option.isNone_some, Bool.not_true, Bool.not_false, Bool.xor_true, Bool.xor_false, Bool.true_xor, Bool.false_xor, decide_true, decide_false, Bool.and_true, Bool.true_and, Bool.and_false, Bool.false_and, eq_self, ne_eq, not_false_eq_true, not_true_eq_false, true_and, and_true, and_self]
        refine sappend_nil rfl rfl tkind58 tsz41 tby41 tz41 rfl ⟨⟨rfl, by decide, by decide⟩, by decide, by decide, by decide⟩ ?_
        refine ⟨(by show 69 < 71; decide), fun c' hc' => ?_⟩
        simp only [go_sem, ↓reduceIte, Nat.reduceEqDiff, Nat.reduceLT, Nat.reduceLeDiff, Nat.reduceAdd, Nat.reduceMul, Nat.reduceSub, Nat.reduceDiv, Nat.reduceMod, Int.reduceToNat, Int.reduceLT, Int.reduceLE, Int.reduceAdd, Int.reduceSub, Int.reduceMul, Int.reduceEq, Int.reduceNeg, reduceCtorEq, or_false, false_or, decide_true, decide_false, Int.cast_ofNat_Int, Nat.zero_add, Nat.add_zero, Int.toNat_natCast, Option.isNone_none, Option.isNone_some, Bool.not_true, Bool.not_false, Bool.xor_true, Bool.xor_false, Bool.true_xor, Bool.false_xor, decide_true, decide_false, Bool.and_true, Bool.true_and, Bool.and_false, Bool.false_and, eq_self, ne_eq, not_false_eq_true, not_true_eq_false, true_and, and_true, and_self, w1]
        refine ⟨(i + 1, some c'), ⟨by show i + 1 ≤ m0; omega, by show outOk (wouts _ ps (i + 1)) _; rw [hstep]; exact ⟨by simpa using hc', by simp⟩, by show (wouts _ ps (i + 1)).length ≤ most; rw [hstep]; simp at h1 ⊢; omega⟩, by show m0 - (i + 1) < m0 - i; omega, ?_⟩
        show Ent _ _ (outI _ _ _ _ _ (i + 1) (wouts _ ps (i + 1)) (some c'))
        rw [hstep]
        exact ent_out 4 rfl (by omega) rfl rfl rfl rfl rfl rfl rfl (fun j hj => by
          have : j = 0 := by omega
          subst this; rfl) rfl
    | some c =>
      obtain ⟨hc1, hc2⟩ : ws.length ≤ c ∧ 0 < ws.length := hok
      simp only [outI, outF, outH, outN, List.cons_append, List.nil_append]
      have app : ∀ (st : St) (C : Cx) (d1 d2 : Nat), True := fun _ _ _ _ => trivial
      cases whole
      all_goals
        simp only [Bool.false_or, Bool.true_or] at hcall
        simp only [go_sem, ↓reduceIte, Nat.reduceEqDiff, Nat.reduceLT, Nat.reduceLeDiff, Nat.reduceAdd, Nat.reduceMul, Nat.reduceSub, Nat.reduceDiv, Nat.reduceMod, Int.reduceToNat, Int.reduceLT, Int.reduceLE, Int.reduceAdd, Int.reduceSub, Int.reduceMul, Int.reduceEq, Int.reduceNeg, reduceCtorEq, or_false, false_or, decide_true, decide_false, Int.cast_ofNat_Int, Nat.zero_add, Nat.add_zero, Int.toNat_natCast, Option.isNone_none, Option.isNone_some, Bool.not_true, Bool.not_false, Bool.xor_true, Bool.xor_false, Bool.true_xor, Bool.false_xor, decide_true, decide_false, Bool.and_true, Bool.true_and, Bool.and_false, Bool.false_and, eq_self, ne_eq, not_false_eq_true, not_true_eq_false, true_and, and_true, and_self, d0, d1, d3, hrow0, h0, n0, Pt.row]
        refine scall_pure [.agg #[.string (ps i).x.b, .string (ps i).x.k, .string (ps i).x.x, .bool (ps i).x.g, .bool _, .int .u8 (ps i).k]] (.agg [.v (.string W.b), .v (.string W.k), .v (.string W.x), .v (.bool W.g)]) W.v Try.call18 hcall rfl (fun _ => rfl) (fun _ => rfl) ?_
        simp only [go_sem, ↓reduceIte, Nat.reduceEqDiff, Nat.reduceLT, Nat.reduceLeDiff, Nat.reduceAdd, Nat.reduceMul, Nat.reduceSub, Nat.reduceDiv, Nat.reduceMod, Int.reduceToNat, Int.reduceLT, Int.reduceLE, Int.reduceAdd, Int.reduceSub, Int.reduceMul, Int.reduceEq, Int.reduceNeg, reduceCtorEq, or_false, false_or, decide_true, decide_false, Int.cast_ofNat_Int, Nat.zero_add, Nat.add_zero, Int.toNat_natCast, Option.isNone_none, Option.isNone_some, Bool.not_true, Bool.not_false, Bool.xor_true, Bool.xor_false, Bool.true_xor, Bool.false_xor, decide_true, decide_false, Bool.and_true, Bool.true_and, Bool.and_false, Bool.false_and, eq_self, ne_eq, not_false_eq_true, not_true_eq_false, true_and, and_true, and_self]
        refine sloop (fun p : Nat × Bool => ⟨[(12, .c (.v (.int .i64 (p.1 : Nat)))), (11, .c (.v (.bool p.2))), (10, .c (.p 3 0 0)), (8, .c (.v (.int .i64 i))), (7, .c (.s 1 0 ws.length c)), (0, .c (.s 0 0 m0 c0)), (1, .c (.v (.int .i64 most))), (2, .c (.v (.bool _)))], [(3, .cells 41 [.v (.string W.b), .v (.string W.k), .v (.string W.x), .v (.bool W.g)]), (1, .rows 41 4 ws.length c fun j => (wrow ws j).map .v), (0, .imm 6 m0 fun i => (r0 i).map .v)], 4⟩)
          (fun p => p.1 ≤ ws.length ∧ p.2 = (ws.take p.1).any (hit W.b W.k)) (fun p => ws.length - p.1) (0, false) ⟨by simp, by simp⟩ (ent_drop ⟨rfl, rfl, rfl, rfl, rfl, rfl, rfl, rfl, trivial⟩ ⟨rfl, rfl, rfl, trivial⟩ (by simp)) (fun p hp => ?_)
        obtain ⟨k, tw⟩ := p
        obtain ⟨hk1, htw⟩ : k ≤ ws.length ∧ tw = (ws.take k).any (hit W.b W.k) := hp
        by_cases hkl : k < ws.length
        · have d4 : decide ((k : Int) < ws.length) = true := by simp; omega
          have d5 : (0 : Int) ≤ k ∧ (k : Int) < ws.length := by omega
          have w2 : IntKind.i64.wrap ((k : Int) + 1) = ((k + 1 : Nat) : Int) := wrap_i64 _ (by omega) (by omega)
          obtain ⟨x, hx⟩ : ∃ x, ws[k]? = some x := ⟨_, List.getElem?_eq_getElem hkl⟩
          have hr2 := wrow_eq hx
          have htk : (ws.take (k + 1)).any (hit W.b W.k) = (tw || hit W.b W.k x) := by rw [List.take_add_one, hx, htw]; simp
          simp only [go_sem, ↓reduceIte, Nat.reduceEqDiff, Nat.reduceLT, Nat.reduceLeDiff, Nat.reduceAdd, Nat.reduceMul, Nat.reduceSub, Nat.reduceDiv, Nat.reduceMod, Int.reduceToNat, Int.reduceLT, Int.reduceLE, Int.reduceAdd, Int.reduceSub, Int.reduceMul, Int.reduceEq, Int.reduceNeg, reduceCtorEq, or_false, false_or, decide_true, decide_false, Int.cast_ofNat_Int, Nat.zero_add, Nat.add_zero, Int.toNat_natCast, Option.isNone_none, Option.isNone_some, Bool.not_true, Bool.not_false, Bool.xor_true, Bool.xor_false, Bool.true_xor, Bool.false_xor, decide_true, decide_false, Bool.and_true, Bool.true_and, Bool.and_false, Bool.false_and, eq_self, ne_eq, not_false_eq_true, not_true_eq_false, true_and, and_true, and_self, d4]
          refine sdraw0 [.t 0, .t 1, .t 2, .t 3, .t 4, .t 5, .t 6, .t 7, .t 8, .t 9, .t 10, .t 11, .t 12, .t 13, .t 14, .t 15, .t 16, .t 17, .t 18, .t 19, .t 20, .t 21] 22 rfl (by kernel_rfl) ?_
          cases tw
          · cases e1 : decide (x.b = W.b)
            · simp only [go_sem, ↓reduceIte, Nat.reduceEqDiff, Nat.reduceLT, Nat.reduceLeDiff, Nat.reduceAdd, Nat.reduceMul, Nat.reduceSub, Nat.reduceDiv, Nat.reduceMod, Int.reduceToNat, Int.reduceLT, Int.reduceLE, Int.reduceAdd, Int.reduceSub, Int.reduceMul, Int.reduceEq, Int.reduceNeg, reduceCtorEq, or_false, false_or, decide_true, decide_false, Int.cast_ofNat_Int, Nat.zero_add, Nat.add_zero, Int.toNat_natCast, Option.isNone_none, Option.isNone_some, Bool.not_true, Bool.not_false, Bool.xor_true, Bool.xor_false, Bool.true_xor, Bool.false_xor, decide_true, decide_false, Bool.and_true, Bool.true_and, Bool.and_false, Bool.false_and, eq_self, ne_eq, not_false_eq_true, not_true_eq_false, true_and, and_true, and_self, d5, hkl, hr2, e1, w2]
              exact ⟨(k + 1, false), ⟨by show k + 1 ≤ ws.length; omega, by rw [htk]; simp [hit, e1]⟩, by show ws.length - (k + 1) < ws.length - k; omega, ent_drop ⟨rfl, rfl, rfl, rfl, rfl, rfl, rfl, rfl, trivial⟩ ⟨rfl, rfl, rfl, trivial⟩ (by simp)⟩
            · cases e2 : decide (x.k = W.k)
              · simp only [go_sem, ↓reduceIte, Nat.reduceEqDiff, Nat.reduceLT, Nat.reduceLeDiff, Nat.reduceAdd, Nat.reduceMul, Nat.reduceSub, Nat.reduceDiv, Nat.reduceMod, Int.reduceToNat, Int.reduceLT, Int.reduceLE, Int.reduceAdd, Int.reduceSub, Int.reduceMul, Int.reduceEq, Int.reduceNeg, reduceCtorEq, or_false, false_or, decide_true, decide_false, Int.cast_ofNat_Int, Nat.zero_add, Nat.add_zero, Int.toNat_natCast, Option.isNone_none, Option.isNone_some, Bool.not_true, Bool.not_false, Bool.xor_true, Bool.xor_false, Bool.true_xor, Bool.false_xor, decide_true, decide_false, Bool.and_true, Bool.true_and, Bool.and_false, Bool.false_and, eq_self, ne_eq, not_false_eq_true, not_true_eq_false, true_and, and_true, and_self, d5, hkl, hr2, e1, e2, w2]
                exact ⟨(k + 1, false), ⟨by show k + 1 ≤ ws.length; omega, by rw [htk]; simp [hit, e1, e2]⟩, by show ws.length - (k + 1) < ws.length - k; omega, ent_drop ⟨rfl, rfl, rfl, rfl, rfl, rfl, rfl, rfl, trivial⟩ ⟨rfl, rfl, rfl, trivial⟩ (by simp)⟩
              · simp only [go_sem, ↓reduceIte, Nat.reduceEqDiff, Nat.reduceLT, Nat.reduceLeDiff, Nat.reduceAdd, Nat.reduceMul, Nat.reduceSub, Nat.reduceDiv, Nat.reduceMod, Int.reduceToNat, Int.reduceLT, Int.reduceLE, Int.reduceAdd, Int.reduceSub, Int.reduceMul, Int.reduceEq, Int.reduceNeg, reduceCtorEq, or_false, false_or, decide_true, decide_false, Int.cast_ofNat_Int, Nat.zero_add, Nat.add_zero, Int.toNat_natCast, Option.isNone_none, Option.isNone_some, Bool.not_true, Bool.not_false, Bool.xor_true, Bool.xor_false, Bool.true_xor, Bool.false_xor, decide_true, decide_false, Bool.and_true, Bool.true_and, Bool.and_false, Bool.false_and, eq_self, ne_eq, not_false_eq_true, not_true_eq_false, true_and, and_true, and_self, d5, hkl, hr2, e1, e2, w2]
                exact ⟨(k + 1, true), ⟨by show k + 1 ≤ ws.length; omega, by rw [htk]; simp [hit, e1, e2]⟩, by show ws.length - (k + 1) < ws.length - k; omega, ent_drop ⟨rfl, rfl, rfl, rfl, rfl, rfl, rfl, rfl, trivial⟩ ⟨rfl, rfl, rfl, trivial⟩ (by simp)⟩
          · simp only [go_sem, ↓reduceIte, Nat.reduceEqDiff, Nat.reduceLT, Nat.reduceLeDiff, Nat.reduceAdd, Nat.reduceMul, Nat.reduceSub, Nat.reduceDiv, Nat.reduceMod, Int.reduceToNat, Int.reduceLT, Int.reduceLE, Int.reduceAdd, Int.reduceSub, Int.reduceMul, Int.reduceEq, Int.reduceNeg, reduceCtorEq, or_false, false_or, decide_true, decide_false, Int.cast_ofNat_Int, Nat.zero_add, Nat.add_zero, Int.toNat_natCast, Option.isNone_none, Option.isNone_some, Bool.not_true, Bool.not_false, Bool.xor_true, Bool.xor_false, Bool.true_xor, Bool.false_xor, decide_true, decide_false, Bool.and_true, Bool.true_and, Bool.and_false, Bool.false_and, eq_self, ne_eq, not_false_eq_true, not_true_eq_false, true_and, and_true, and_self, d5, hkl, hr2, w2]
            exact ⟨(k + 1, true), ⟨by show k + 1 ≤ ws.length; omega, by rw [htk]; simp⟩, by show ws.length - (k + 1) < ws.length - k; omega, ent_drop ⟨rfl, rfl, rfl, rfl, rfl, rfl, rfl, rfl, trivial⟩ ⟨rfl, rfl, rfl, trivial⟩ (by simp)⟩
        · obtain rfl : k = ws.length := by omega
          have d4 : decide ((ws.length : Int) < ws.length) = false := by simp
          rw [List.take_length] at htw
          rw [← htw] at hstep
          cases tw
          all_goals
            have hstep : wouts _ ps (i + 1) = _ := hnext.trans hstep
            simp only [Bool.false_and, Bool.true_and, Bool.and_false, Bool.and_true, if_true, if_false, Bool.false_eq_true] at hstep
            simp only [go_sem, ↓reduceIte, Nat.reduceEqDiff, Nat.reduceLT, Nat.reduceLeDiff, Nat.reduceAdd, Nat.reduceMul, Nat.reduceSub, Nat.reduceDiv, Nat.reduceMod, Int.reduceToNat, Int.reduceLT, Int.reduceLE, Int.reduceAdd, Int.reduceSub, Int.reduceMul, Int.reduceEq, Int.reduceNeg, reduceCtorEq, or_false, false_or, decide_true, decide_false, Int.cast_ofNat_Int, Nat.zero_add, Nat.add_zero, Int.toNat_natCast, Option.isNone_none, Option.isNone_some, Bool.not_true, Bool.not_false, Bool.xor_true, Bool.xor_false, Bool.true_xor, Bool.false_xor, decide_true, decide_false, Bool.and_true, Bool.true_and, Bool.and_false, Bool.false_and, eq_self, ne_eq, not_false_eq_true, not_true_eq_false, true_and, and_true, and_self, d4]
            first
              | (refine sappend rfl rfl tkind58 tsz41 tby41 tz41 rfl rfl ⟨⟨rfl, by decide, by decide, Nat.le_refl _⟩, by decide, by omega, by omega⟩ (fun i hi => by
                   have : i = 0 := by omega
                   subst this; rfl) ?_
                 refine ⟨(by show 69 < 71; decide), fun c' hc' => ?_⟩
                 simp only [go_sem, ↓reduceIte, Nat.reduceEqDiff, Nat.reduceLT, Nat.reduceLeDiff, Nat.reduceAdd, Nat.reduceMul, Nat.reduceSub, Nat.reduceDiv, Nat.reduceMod, Int.reduceToNat, Int.reduceLT, Int.reduceLE, Int.reduceAdd, Int.reduceSub, Int.reduceMul, Int.reduceEq, Int.reduceNeg, reduceCtorEq, or_false, false_or, decide_true, decide_false, Int.cast_ofNat_Int, Nat.zero_add, Nat.add_zero, Int.toNat_natCast, Option.isNone_none, Option.isNone_some, Bool.not_true, Bool.not_false, Bool.xor_true, Bool.xor_false, Bool.true_xor, Bool.false_xor, decide_true, decide_false, Bool.and_true, Bool.true_and, Bool.and_false, Bool.false_and, eq_self, ne_eq, not_false_eq_true, not_true_eq_false, true_and, and_true, and_self, w1]
                 refine ⟨(i + 1, some c'), ⟨by show i + 1 ≤ m0; omega, by show outOk (wouts _ ps (i + 1)) _; rw [hstep]; exact ⟨by simp; omega, by simp⟩, by show (wouts _ ps (i + 1)).length ≤ most; rw [hstep]; simp; omega⟩, by show m0 - (i + 1) < m0 - i; omega, ?_⟩
                 show Ent _ _ (outI _ _ _ _ _ (i + 1) (wouts _ ps (i + 1)) (some c'))
                 rw [hstep]
                 refine ent_out 5 rfl (by omega) rfl rfl rfl rfl rfl rfl (by simp) (fun j hj => ?_) rfl
                 by_cases hjl : j < ws.length
                 · simp only [rapp, hjl, if_true, wrow, List.getElem?_append_left hjl]
                 · have hjl2 : j = ws.length := by omega
                   subst hjl2
                   simp [rapp, wrow, rowsOf, Wr.l])
              | (simp only [go_sem, ↓reduceIte, Nat.reduceEqDiff, Nat.reduceLT, Nat.reduceLeDiff, Nat.reduceAdd, Nat.reduceMul, Nat.reduceSub, Nat.reduceDiv, Nat.reduceMod, Int.reduceToNat, Int.reduceLT, Int.reduceLE, Int.reduceAdd, Int.reduceSub, Int.reduceMul, Int.reduceEq, Int.reduceNeg, reduceCtorEq, or_false, false_or, decide_true, decide_false, Int.cast_ofNat_Int, Nat.zero_add, Nat.add_zero, Int.toNat_natCast, Option.isNone_none, Option.isNone_some, Bool.not_true, Bool.not_false, Bool.xor_true, Bool.xor_false, Bool.true_xor, Bool.false_xor, decide_true, decide_false, Bool.and_true, Bool.true_and, Bool.and_false, Bool.false_and, eq_self, ne_eq, not_false_eq_true, not_true_eq_false, true_and, and_true, and_self, w1]
                 refine ⟨(i + 1, some c), ⟨by show i + 1 ≤ m0; omega, by show outOk (wouts _ ps (i + 1)) _; rw [hstep]; exact ⟨hc1, hc2⟩, by show (wouts _ ps (i + 1)).length ≤ most; rw [hstep]; omega⟩, by show m0 - (i + 1) < m0 - i; omega, ?_⟩
                 show Ent _ _ (outI _ _ _ _ _ (i + 1) (wouts _ ps (i + 1)) (some c))
                 rw [hstep]
                 exact ent_out 1 rfl (by omega) rfl rfl rfl rfl rfl rfl rfl (fun j hj => rfl) rfl)
  · obtain ⟨c0, c2, d0, d2⟩ : ∃ c0 c2, decide ((i : Int) < m0) = c0 ∧ decide ((ws.length : Int) < most) = c2 := ⟨_, _, rfl, rfl⟩
    have hc : (c0 && c2) = false := by
      rw [← d0, ← d2]; simp; omega
    have hend : i = m0 ∨ most ≤ ws.length := by omega
    cases c with
    | none =>
      have hw0 : ws = [] := hok
      subst hw0
      simp only [List.length_nil, Int.natCast_zero, Int.ofNat_zero] at d2
      simp only [outI, outF, outH, outN, List.nil_append]
      cases c0 <;> cases c2 <;> first | cases hc | skip
      all_goals
        simp only [go_sem, ↓reduceIte, Nat.reduceEqDiff, Nat.reduceLT, Nat.reduceLeDiff, Nat.reduceAdd, Nat.reduceMul, Nat.reduceSub, Nat.reduceDiv, Nat.reduceMod, Int.reduceToNat, Int.reduceLT, Int.reduceLE, Int.reduceAdd, Int.reduceSub, Int.reduceMul, Int.reduceEq, Int.reduceNeg, reduceCtorEq, or_false, false_or, decide_true, decide_false, Int.cast_ofNat_Int, Nat.zero_add, Nat.add_zero, Int.toNat_natCast, Option.isNone_none, Option.isNone_some, Bool.not_true, Bool.not_false, Bool.xor_true, Bool.xor_false, Bool.true_xor, Bool.false_xor, decide_true, decide_false, Bool.and_true, Bool.true_and, Bool.and_false, Bool.false_and, eq_self, ne_eq, not_false_eq_true, not_true_eq_false, true_and, and_true, and_self, d0, d2, n0]
        exact fun ρ a w' hs _ => ⟨i, none, hi, by rw [hws]; exact hend, by rw [hws]; exact hle, by simp [SV.den, CV.den, slv], by rw [hws]; rfl, hs.grown, fun b c h => by cases h⟩
    | some c =>
      obtain ⟨hc1, hc2⟩ : ws.length ≤ c ∧ 0 < ws.length := hok
      simp only [outI, outF, outH, outN, List.cons_append, List.nil_append]
      cases c0 <;> cases c2 <;> first | cases hc | skip
      all_goals
        simp only [go_sem, ↓reduceIte, Nat.reduceEqDiff, Nat.reduceLT, Nat.reduceLeDiff, Nat.reduceAdd, Nat.reduceMul, Nat.reduceSub, Nat.reduceDiv, Nat.reduceMod, Int.reduceToNat, Int.reduceLT, Int.reduceLE, Int.reduceAdd, Int.reduceSub, Int.reduceMul, Int.reduceEq, Int.reduceNeg, reduceCtorEq, or_false, false_or, decide_true, decide_false, Int.cast_ofNat_Int, Nat.zero_add, Nat.add_zero, Int.toNat_natCast, Option.isNone_none, Option.isNone_some, Bool.not_true, Bool.not_false, Bool.xor_true, Bool.xor_false, Bool.true_xor, Bool.false_xor, decide_true, decide_false, Bool.and_true, Bool.true_and, Bool.and_false, Bool.false_and, eq_self, ne_eq, not_false_eq_true, not_true_eq_false, true_and, and_true, and_self, d0, d2, n0]
        refine fun ρ a w' hs _ => ⟨i, some ((ρ 1).blk, c), hi, by rw [hws]; exact hend, by rw [hws]; exact hle, ?_, ?_, hs.grown, fun b c h => ?_⟩
        · rw [hws]; simp [SV.den, CV.den, slv, (hs.now.hp _ _ (mem_hget (n := 1) rfl)).1]
        · rw [hws]; exact ⟨⟨hc1, hc2⟩, rowsAt_of (hs.now.hp _ _ (mem_hget (n := 1) rfl)) rfl fun j _ => map_v _ _⟩
        · injection h with h; injection h with h _
          have := (hs.now.hp _ _ (mem_hget (n := 1) rfl)).2.2.2
          rw [← h]
          exact this.elim id fun h => h.elim

theorem LArg.den {k m : Nat} {x : CV} (h : LArg k m x) {ρ ρ' : Env} (hρ : ρ' k = ρ k) : x.den ρ' = x.den ρ := by
  rcases h with ⟨rfl, rfl⟩ | ⟨cap, rfl⟩
  · rfl
  · simp [CV.den, hρ]
/-- A statement's writes, called: a list of its own. -/
theorem writes_list {C : Cx} {fr : List (Nat × SV)} {hp : List (Nat × Blk)} {nx m0 : Nat} {r0 : Nat → List Value} {x0 : CV} {d : Option Tmp} {K : St → Prop} (q : Nat) (hg : hget hp q = some (.imm 6 m0 fun i => (r0 i).map .v)) (l0 : LArg q m0 x0) (ps : Nat → Pt) (f0 : ∀ i, i < m0 → (r0 i).map CV.v = (ps i).row ∧ (ps i).k < 256) (most : Nat) (hmost : most ≤ 100) (hm0 : m0 ≤ maxLen) (whole : Bool) (hd : dokB C.N d = true)
    (hK : ∀ i, i ≤ m0 → (i = m0 ∨ most ≤ (wouts whole ps i).length) → (wouts whole ps i).length ≤ most →
      (wouts whole ps i = [] → kput K ⟨fr, hp, nx⟩ d (.c (.v (.slice none 0 0)))) ∧
      ∀ c, (wouts whole ps i).length ≤ c ∧ 0 < (wouts whole ps i).length → kput K ⟨fr, (nx, .rows 41 4 (wouts whole ps i).length c fun j => (wrow (wouts whole ps i) j).map .v) :: hp, nx + 1⟩ d (.c (.s nx 0 (wouts whole ps i).length c))) :
    SCall Try.prog C 41 [.c x0, .c (.v (.int .i64 most)), .c (.v (.bool whole))] d K ⟨fr, hp, nx⟩ := by
  refine ⟨rfl, fun ρ w a hs _ => ⟨fun v w => Try.call41 _ w, ?_⟩⟩
  obtain ⟨g1, g2, g3⟩ := hs.now.hp _ _ (mem_hget hg)
  have him : ImmAt w (ρ q).blk (ρ q).base 6 m0 r0 := by
    refine ⟨fun h => Nat.lt_of_lt_of_le (g3 h).1 hs.now.keeps.size, fun i hi => by simpa using (g2 i hi).1, fun i hi u hu => ?_⟩
    rw [(g2 i hi).2 u hu, ← List.getElem?_map, map_v]
  have l0' : ∃ y0, LArg 0 m0 y0 ∧ ∀ ρ' : Env, ρ' 0 = ⟨(ρ q).blk, (ρ q).base, 6⟩ → y0.den ρ' = x0.den ρ := by
    rcases l0 with ⟨rfl, rfl⟩ | ⟨cap, rfl⟩
    · exact ⟨_, .inl ⟨rfl, rfl⟩, fun _ _ => rfl⟩
    · exact ⟨.s 0 0 m0 cap, .inr ⟨cap, rfl⟩, fun ρ' h => by simp [CV.den, h]⟩
  obtain ⟨y0, l0', e0⟩ := l0'
  refine (writesL_c w him l0' e0 ps f0 most hmost hm0 whole).mono fun e w' ⟨i, s, h1, h2, h3, he, hw, hb, hf⟩ => ⟨_, he, ?_⟩
  obtain ⟨k0, k1⟩ := hK i h1 h2 h3
  have hs' := hs.below hb
  rcases s with _ | ⟨b, c⟩
  · have hws : wouts whole ps i = [] := hw
    refine ⟨_, ρ, k0 hws, hs'.put (dOk_of hd) fun _ ρ' _ => ?_, by cases d <;> simp [St.put], fun _ _ => rfl⟩
    rw [hws]; simp [slv, SV.den, CV.den]
  · have hlt := hf b c rfl
    have h1 := hs'.add (.rows 41 4 (wouts whole ps i).length c fun j => (wrow (wouts whole ps i) j).map .v) ⟨b, 0, 4⟩ [b] (fun ρ' hρ hn => hw.2.holds hn (.inl (Nat.le_trans hs.now.keeps.size hlt)) fun i _ => map_v _ _)
      (fun ρ' hn => by simp [Blk.foot, hn]) (fun k hk hm => by
        have := (hs.now.foot_lt hm).1
        simp at hk; omega) (by simp)
    refine ⟨_, _, k1 c hw.1, h1.put (dOk_of hd) fun _ ρ' hρ' => ?_, by cases d <;> simp [St.put], fun k hk => by simp [envSet, Nat.ne_of_lt hk]⟩
    have := hρ' nx (by simp)
    simp [envSet] at this
    simp [slv, SV.den, CV.den, this]
end Go.Proofs.Ytfokingbglkmjaa
