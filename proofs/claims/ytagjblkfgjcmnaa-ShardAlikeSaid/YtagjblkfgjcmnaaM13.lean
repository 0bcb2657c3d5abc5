/-
  Parts of the proof: Shard2, Shard3, Shard4, Shard5, Shard6, Shard7, Puts, Deal, Deal2, Ex10, Waits10. Conditions: none.
-/
import Derived.Test.YtagjblkfgjcmnaaM12
import Derived.Test.YtagjblkfgjcmnaaM11
set_option linter.unusedVariables false
set_option linter.unusedSimpArgs false
set_option linter.unusedSectionVars false
namespace Go.Proofs.Ytagjblkfgjcmnaa
open Go.RowKit Go.Sx CW
abbrev shO (gl m : Nat) (ap : V4) : Blk := .cells 98 [.v (gptr gl), .v (.map (some m)), cu ap.a, cu ap.b, cu ap.c, cu ap.d]
def ShSh (s : ShS) (nx : Nat) (hp : List (Nat × Blk)) : Prop := nx = 4 ∧ ∃ gl m es fpl fpc, (Rel es s.l ∧ WfL s.l) ∧
  hp = [(0, shO gl m s.ap), (1, .pred fpl (On gl (LnSh s.room s.w) fpl)), (2, .pred [m] (MapAt kenc m (emap es))), (3, .pred fpc (All CR es fpc))]
theorem sh_end {C : Cx} {fp : List Nat} {w w' : World} {fr : List (Nat × SV)} {hp : List (Nat × Blk)} {nx : Nat} {ρ : Env} {a : Act} {g : Nat} (s : ShS) (hw : C.w0 = w) (hM : C.M = (· ∈ fp)) (hs : Sat C ⟨fr, hp, nx⟩ ρ a w') (hg : (ρ 0).blk = g) (hb : (ρ 0).base = 0) {gl m : Nat} {es : List Ent3} {fpl fpc : List Nat} (hR : Rel es s.l) (hW : WfL s.l)
    (h0 : hget hp 0 = some (shO gl m s.ap)) (h1 : hget hp 1 = some (.pred fpl (On gl (LnSh s.room s.w) fpl))) (h2 : hget hp 2 = some (.pred [m] (MapAt kenc m (emap es)))) (h3 : hget hp 3 = some (.pred fpc (All CR es fpc))) : ∃ fp', On g (ShSh s) fp' w' ∧ Chg fp fp' w w' :=
  on_ends (Sh := ShSh s) (g := g) hw hM hs id (nx' := 4) (hp' := [(0, shO gl m s.ap), (1, .pred fpl (On gl (LnSh s.room s.w) fpl)), (2, .pred [m] (MapAt kenc m (emap es))), (3, .pred fpc (All CR es fpc))])
    ⟨⟨by omega, by simp [Blk.bl, CV.blL, CV.bl], h0⟩, ⟨by omega, trivial, h1⟩, ⟨by omega, trivial, h2⟩, ⟨by omega, trivial, h3⟩, trivial⟩ (by simp) rfl ⟨rfl, gl, m, es, fpl, fpc, ⟨hR, hW⟩, rfl⟩ hg hb (by omega)
def ShS.new (room : Nat) : ShS := ⟨room, [], [], ⟨0, 0, 0, 0⟩⟩
set_option maxHeartbeats 1000000 in
set_option maxRecDepth 100000 in
theorem shnew_c (room : Int) (w : World) : Calls Try.prog 9 #[.int .i64 room] w fun e w' =>
    if roomOk room then ∃ g fp', e = .returned (.tuple #[gptr g, .int .i64 0]) ∧ On g (ShSh (ShS.new room.toNat)) fp' w' ∧ Chg [] fp' w w' else e = .returned (.tuple #[.pointer none, .int .i64 1]) ∧ Below w.heap.size w w' := by
  refine calls_pure 18 _ Try.func9 rfl Try.ntmps9 Try.results9 [.c (.v (.int .i64 room))] (by simp) (fun _ => rfl) ?_
  cases hok : roomOk room
  · simp only [Bool.false_eq_true, if_false]
    simp (disch := omega) only [go_sem, ↓reduceIte, Nat.reduceEqDiff, Nat.reduceLT, Nat.reduceLeDiff, Nat.reduceAdd, Nat.reduceMul, Nat.reduceSub, Nat.reduceDiv, Nat.reduceMod, Int.reduceToNat, Int.reduceLT, Int.reduceLE, Int.reduceAdd, Int.reduceSub, Int.reduceMul, Int.reduceEq, Int.reduceNeg, reduceCtorEq, or_false, false_or, decide_true, decide_false, Int.cast_ofNat_Int, Nat.zero_add, Nat.add_zero, Int.toNat_natCast, Option.isNone_none, Option.isNone_some, Bool.not_true, Bool.not_false, Bool.xor_true, Bool.xor_false, Bool.true_xor, Bool.false_xor, decide_true, decide_false, Bool.and_true, Bool.true_and, Bool.and_false, Bool.false_and, eq_self, ne_eq, not_false_eq_true, not_true_eq_false, true_and, and_true, and_self, wrapI64, wrapu64, wrapu32, wrapu8, ltT, ltF, leT, leF, eqF, eqT, nltT, nleT, neqFn]
    refine lnew_bad hok ?_
    simp (disch := omega) only [go_sem, ↓reduceIte, Nat.reduceEqDiff, Nat.reduceLT, Nat.reduceLeDiff, Nat.reduceAdd, Nat.reduceMul, Nat.reduceSub, Nat.reduceDiv, Nat.reduceMod, Int.reduceToNat, Int.reduceLT, Int.reduceLE, Int.reduceAdd, Int.reduceSub, Int.reduceMul, Int.reduceEq, Int.reduceNeg, reduceCtorEq, or_false, false_or, decide_true, decide_false, Int.cast_ofNat_Int, Nat.zero_add, Nat.add_zero, Int.toNat_natCast, Option.isNone_none, Option.isNone_some, Bool.not_true, Bool.not_false, Bool.xor_true, Bool.xor_false, Bool.true_xor, Bool.false_xor, decide_true, decide_false, Bool.and_true, Bool.true_and, Bool.and_false, Bool.false_and, eq_self, ne_eq, not_false_eq_true, not_true_eq_false, true_and, and_true, and_self, wrapI64, wrapu64, wrapu32, wrapu8, ltT, ltF, leT, leF, eqF, eqT, nltT, nleT, neqFn]
    exact fun ρ a w hs _ => ⟨rfl, hs.grown⟩
  · simp only [if_true]
    simp (disch := omega) only [go_sem, ↓reduceIte, Nat.reduceEqDiff, Nat.reduceLT, Nat.reduceLeDiff, Nat.reduceAdd, Nat.reduceMul, Nat.reduceSub, Nat.reduceDiv, Nat.reduceMod, Int.reduceToNat, Int.reduceLT, Int.reduceLE, Int.reduceAdd, Int.reduceSub, Int.reduceMul, Int.reduceEq, Int.reduceNeg, reduceCtorEq, or_false, false_or, decide_true, decide_false, Int.cast_ofNat_Int, Nat.zero_add, Nat.add_zero, Int.toNat_natCast, Option.isNone_none, Option.isNone_some, Bool.not_true, Bool.not_false, Bool.xor_true, Bool.xor_false, Bool.true_xor, Bool.false_xor, decide_true, decide_false, Bool.and_true, Bool.true_and, Bool.and_false, Bool.false_and, eq_self, ne_eq, not_false_eq_true, not_true_eq_false, true_and, and_true, and_self, wrapI64, wrapu64, wrapu32, wrapu8, ltT, ltF, leT, leF, eqF, eqT, nltT, nleT, neqFn]
    refine lnew_s hok rfl fun gl fpl => ?_
    simp (disch := omega) only [go_sem, ↓reduceIte, Nat.reduceEqDiff, Nat.reduceLT, Nat.reduceLeDiff, Nat.reduceAdd, Nat.reduceMul, Nat.reduceSub, Nat.reduceDiv, Nat.reduceMod, Int.reduceToNat, Int.reduceLT, Int.reduceLE, Int.reduceAdd, Int.reduceSub, Int.reduceMul, Int.reduceEq, Int.reduceNeg, reduceCtorEq, or_false, false_or, decide_true, decide_false, Int.cast_ofNat_Int, Nat.zero_add, Nat.add_zero, Int.toNat_natCast, Option.isNone_none, Option.isNone_some, Bool.not_true, Bool.not_false, Bool.xor_true, Bool.xor_false, Bool.true_xor, Bool.false_xor, decide_true, decide_false, Bool.and_true, Bool.true_and, Bool.and_false, Bool.false_and, eq_self, ne_eq, not_false_eq_true, not_true_eq_false, true_and, and_true, and_self, wrapI64, wrapu64, wrapu32, wrapu8, ltT, ltF, leT, leF, eqF, eqT, nltT, nleT, neqFn]
    refine smakeMap kenc ⟨Nat.le_of_ble_eq_true rfl, fun m => ?_⟩
    simp (disch := omega) only [go_sem, ↓reduceIte, Nat.reduceEqDiff, Nat.reduceLT, Nat.reduceLeDiff, Nat.reduceAdd, Nat.reduceMul, Nat.reduceSub, Nat.reduceDiv, Nat.reduceMod, Int.reduceToNat, Int.reduceLT, Int.reduceLE, Int.reduceAdd, Int.reduceSub, Int.reduceMul, Int.reduceEq, Int.reduceNeg, reduceCtorEq, or_false, false_or, decide_true, decide_false, Int.cast_ofNat_Int, Nat.zero_add, Nat.add_zero, Int.toNat_natCast, Option.isNone_none, Option.isNone_some, Bool.not_true, Bool.not_false, Bool.xor_true, Bool.xor_false, Bool.true_xor, Bool.false_xor, decide_true, decide_false, Bool.and_true, Bool.true_and, Bool.and_false, Bool.false_and, eq_self, ne_eq, not_false_eq_true, not_true_eq_false, true_and, and_true, and_self, wrapI64, wrapu64, wrapu32, wrapu8, ltT, ltF, leT, leF, eqF, eqT, nltT, nleT, neqFn]
    refine fun ρ a w' hs _ => ?_
    have hb := (hs.now.hp 2 _ (mem_hget rfl)).1
    have hs2 := hs.addNone (R := CR)
    have hb2 := (hs2.now.hp 2 _ (mem_hget rfl)).1
    obtain ⟨fp', hon, hch⟩ := on_ends (fp := []) (Sh := ShSh (ShS.new room.toNat)) (g := (ρ 2).blk) rfl (by funext k; simp) hs2 (fun k => if k = 0 then 2 else if k = 1 then 0 else if k = 2 then 1 else 3) (nx' := 4)
      (hp' := [(0, shO gl m ⟨0, 0, 0, 0⟩), (1, .pred fpl (On gl (LnSh room.toNat []) fpl)), (2, .pred [m] (MapAt kenc m [])), (3, .pred [] (All CR [] []))])
      ⟨⟨by omega, by simp [Blk.bl, CV.blL, CV.bl], rfl⟩, ⟨by omega, trivial, rfl⟩, ⟨by omega, trivial, rfl⟩, ⟨by omega, trivial, rfl⟩, trivial⟩ (by simp) rfl ⟨rfl, gl, m, [], fpl, [], ⟨Rel.nil, WfL.nil⟩, rfl⟩ (by simp [envSet]) hb2 (by omega)
    exact ⟨(ρ 2).blk, fp', by simp [SV.den, SV.denL, CV.den, gptr, hb], hon, hch⟩
theorem shwait_c (g : Nat) (s : ShS) (fp : List Nat) (w : World) (h : On g (ShSh s) fp w) : Calls Try.prog 26 #[gptr g] w (TurnK g fp (.int .i64 s.w.length) (ShSh s) w) := by
  refine on_calls2 h 8 _ Try.func26 rfl Try.ntmps26 Try.results26 [.c (.p 0 0 0)] (by simp) (fun ρ' h1 h2 => by simp [SV.denL, SV.den, CV.den, gptr, h1, h2]) (fun ρ nx hp hsh hg hb hh => ?_)
  have hsh0 := hsh
  obtain ⟨rfl, gl, m, es, fpl, fpc, hR, rfl⟩ := hsh
  simp (disch := omega) only [go_sem, ↓reduceIte, Nat.reduceEqDiff, Nat.reduceLT, Nat.reduceLeDiff, Nat.reduceAdd, Nat.reduceMul, Nat.reduceSub, Nat.reduceDiv, Nat.reduceMod, Int.reduceToNat, Int.reduceLT, Int.reduceLE, Int.reduceAdd, Int.reduceSub, Int.reduceMul, Int.reduceEq, Int.reduceNeg, reduceCtorEq, or_false, false_or, decide_true, decide_false, Int.cast_ofNat_Int, Nat.zero_add, Nat.add_zero, Int.toNat_natCast, Option.isNone_none, Option.isNone_some, Bool.not_true, Bool.not_false, Bool.xor_true, Bool.xor_false, Bool.true_xor, Bool.false_xor, decide_true, decide_false, Bool.and_true, Bool.true_and, Bool.and_false, Bool.false_and, eq_self, ne_eq, not_false_eq_true, not_true_eq_false, true_and, and_true, and_self, wrapI64, wrapu64, wrapu32, wrapu8, ltT, ltF, leT, leF, eqF, eqT, nltT, nleT, neqFn]
  refine llen_s 1 rfl rfl ?_
  simp (disch := omega) only [go_sem, ↓reduceIte, Nat.reduceEqDiff, Nat.reduceLT, Nat.reduceLeDiff, Nat.reduceAdd, Nat.reduceMul, Nat.reduceSub, Nat.reduceDiv, Nat.reduceMod, Int.reduceToNat, Int.reduceLT, Int.reduceLE, Int.reduceAdd, Int.reduceSub, Int.reduceMul, Int.reduceEq, Int.reduceNeg, reduceCtorEq, or_false, false_or, decide_true, decide_false, Int.cast_ofNat_Int, Nat.zero_add, Nat.add_zero, Int.toNat_natCast, Option.isNone_none, Option.isNone_some, Bool.not_true, Bool.not_false, Bool.xor_true, Bool.xor_false, Bool.true_xor, Bool.false_xor, decide_true, decide_false, Bool.and_true, Bool.true_and, Bool.and_false, Bool.false_and, eq_self, ne_eq, not_false_eq_true, not_true_eq_false, true_and, and_true, and_self, wrapI64, wrapu64, wrapu32, wrapu8, ltT, ltF, leT, leF, eqF, eqT, nltT, nleT, neqFn]
  exact fun ρ' a w' hs' hag => ⟨rfl, on_same rfl rfl hs' hag hh rfl hsh0 hg hb⟩
set_option maxRecDepth 100000 in
theorem shroom_c (g : Nat) (s : ShS) (hr : s.room ≤ 1000 ∧ s.w.length ≤ 1000) (fp : List Nat) (w : World) (h : On g (ShSh s) fp w) : Calls Try.prog 27 #[gptr g] w (TurnK g fp (.int .i64 ((s.room : Int) - s.w.length)) (ShSh s) w) := by
  refine on_calls2 h 14 _ Try.func27 rfl Try.ntmps27 Try.results27 [.c (.p 0 0 0)] (by simp) (fun ρ' h1 h2 => by simp [SV.denL, SV.den, CV.den, gptr, h1, h2]) (fun ρ nx hp hsh hg hb hh => ?_)
  have hsh0 := hsh
  obtain ⟨rfl, gl, m, es, fpl, fpc, hR, rfl⟩ := hsh
  simp (disch := omega) only [go_sem, ↓reduceIte, Nat.reduceEqDiff, Nat.reduceLT, Nat.reduceLeDiff, Nat.reduceAdd, Nat.reduceMul, Nat.reduceSub, Nat.reduceDiv, Nat.reduceMod, Int.reduceToNat, Int.reduceLT, Int.reduceLE, Int.reduceAdd, Int.reduceSub, Int.reduceMul, Int.reduceEq, Int.reduceNeg, reduceCtorEq, or_false, false_or, decide_true, decide_false, Int.cast_ofNat_Int, Nat.zero_add, Nat.add_zero, Int.toNat_natCast, Option.isNone_none, Option.isNone_some, Bool.not_true, Bool.not_false, Bool.xor_true, Bool.xor_false, Bool.true_xor, Bool.false_xor, decide_true, decide_false, Bool.and_true, Bool.true_and, Bool.and_false, Bool.false_and, eq_self, ne_eq, not_false_eq_true, not_true_eq_false, true_and, and_true, and_self, wrapI64, wrapu64, wrapu32, wrapu8, ltT, ltF, leT, leF, eqF, eqT, nltT, nleT, neqFn]
  refine sdraw0 [.t 0, .t 1, .t 2, .t 3, .t 5, .t 6, .t 7, .t 8, .r 4, .r 9, .t 10, .t 11] 12 rfl (by kernel_rfl) ?_
  simp (disch := omega) only [go_sem, ↓reduceIte, Nat.reduceEqDiff, Nat.reduceLT, Nat.reduceLeDiff, Nat.reduceAdd, Nat.reduceMul, Nat.reduceSub, Nat.reduceDiv, Nat.reduceMod, Int.reduceToNat, Int.reduceLT, Int.reduceLE, Int.reduceAdd, Int.reduceSub, Int.reduceMul, Int.reduceEq, Int.reduceNeg, reduceCtorEq, or_false, false_or, decide_true, decide_false, Int.cast_ofNat_Int, Nat.zero_add, Nat.add_zero, Int.toNat_natCast, Option.isNone_none, Option.isNone_some, Bool.not_true, Bool.not_false, Bool.xor_true, Bool.xor_false, Bool.true_xor, Bool.false_xor, decide_true, decide_false, Bool.and_true, Bool.true_and, Bool.and_false, Bool.false_and, eq_self, ne_eq, not_false_eq_true, not_true_eq_false, true_and, and_true, and_self, wrapI64, wrapu64, wrapu32, wrapu8, ltT, ltF, leT, leF, eqF, eqT, nltT, nleT, neqFn]
  refine lroom_s 1 rfl rfl ?_
  simp (disch := omega) only [go_sem, ↓reduceIte, Nat.reduceEqDiff, Nat.reduceLT, Nat.reduceLeDiff, Nat.reduceAdd, Nat.reduceMul, Nat.reduceSub, Nat.reduceDiv, Nat.reduceMod, Int.reduceToNat, Int.reduceLT, Int.reduceLE, Int.reduceAdd, Int.reduceSub, Int.reduceMul, Int.reduceEq, Int.reduceNeg, reduceCtorEq, or_false, false_or, decide_true, decide_false, Int.cast_ofNat_Int, Nat.zero_add, Nat.add_zero, Int.toNat_natCast, Option.isNone_none, Option.isNone_some, Bool.not_true, Bool.not_false, Bool.xor_true, Bool.xor_false, Bool.true_xor, Bool.false_xor, decide_true, decide_false, Bool.and_true, Bool.true_and, Bool.and_false, Bool.false_and, eq_self, ne_eq, not_false_eq_true, not_true_eq_false, true_and, and_true, and_self, wrapI64, wrapu64, wrapu32, wrapu8, ltT, ltF, leT, leF, eqF, eqT, nltT, nleT, neqFn]
  refine llen_s 1 rfl rfl ?_
  simp (disch := omega) only [go_sem, ↓reduceIte, Nat.reduceEqDiff, Nat.reduceLT, Nat.reduceLeDiff, Nat.reduceAdd, Nat.reduceMul, Nat.reduceSub, Nat.reduceDiv, Nat.reduceMod, Int.reduceToNat, Int.reduceLT, Int.reduceLE, Int.reduceAdd, Int.reduceSub, Int.reduceMul, Int.reduceEq, Int.reduceNeg, reduceCtorEq, or_false, false_or, decide_true, decide_false, Int.cast_ofNat_Int, Nat.zero_add, Nat.add_zero, Int.toNat_natCast, Option.isNone_none, Option.isNone_some, Bool.not_true, Bool.not_false, Bool.xor_true, Bool.xor_false, Bool.true_xor, Bool.false_xor, decide_true, decide_false, Bool.and_true, Bool.true_and, Bool.and_false, Bool.false_and, eq_self, ne_eq, not_false_eq_true, not_true_eq_false, true_and, and_true, and_self, wrapI64, wrapu64, wrapu32, wrapu8, ltT, ltF, leT, leF, eqF, eqT, nltT, nleT, neqFn]
  exact fun ρ' a w' hs' hag => ⟨rfl, on_same rfl rfl hs' hag hh rfl hsh0 hg hb⟩
theorem shappl_c (g : Nat) (s : ShS) (fp : List Nat) (w : World) (h : On g (ShSh s) fp w) : Calls Try.prog 28 #[gptr g] w (TurnK g fp s.ap.v (ShSh s) w) := by
  refine on_calls2 h 7 _ Try.func28 rfl Try.ntmps28 Try.results28 [.c (.p 0 0 0)] (by simp) (fun ρ' h1 h2 => by simp [SV.denL, SV.den, CV.den, gptr, h1, h2]) (fun ρ nx hp hsh hg hb hh => ?_)
  have hsh0 := hsh
  obtain ⟨rfl, gl, m, es, fpl, fpc, hR, rfl⟩ := hsh
  simp (disch := omega) only [go_sem, ↓reduceIte, Nat.reduceEqDiff, Nat.reduceLT, Nat.reduceLeDiff, Nat.reduceAdd, Nat.reduceMul, Nat.reduceSub, Nat.reduceDiv, Nat.reduceMod, Int.reduceToNat, Int.reduceLT, Int.reduceLE, Int.reduceAdd, Int.reduceSub, Int.reduceMul, Int.reduceEq, Int.reduceNeg, reduceCtorEq, or_false, false_or, decide_true, decide_false, Int.cast_ofNat_Int, Nat.zero_add, Nat.add_zero, Int.toNat_natCast, Option.isNone_none, Option.isNone_some, Bool.not_true, Bool.not_false, Bool.xor_true, Bool.xor_false, Bool.true_xor, Bool.false_xor, decide_true, decide_false, Bool.and_true, Bool.true_and, Bool.and_false, Bool.false_and, eq_self, ne_eq, not_false_eq_true, not_true_eq_false, true_and, and_true, and_self, wrapI64, wrapu64, wrapu32, wrapu8, ltT, ltF, leT, leF, eqF, eqT, nltT, nleT, neqFn]
  exact fun ρ' a w' hs' hag => ⟨rfl, on_same rfl rfl (hs'.sub (hp' := [(0, shO gl m s.ap), (1, .pred fpl (On gl (LnSh s.room s.w) fpl)), (2, .pred [m] (MapAt kenc m (emap es))), (3, .pred fpc (All CR es fpc))]) ⟨rfl, rfl, rfl, rfl, trivial⟩ (by simp)) hag hh rfl hsh0 hg hb⟩
theorem push1_c (x : Wr) (w : World) : Calls Try.prog 48 #[x.val] w fun e w' => e = .returned (.bool !x.right) ∧ Below w.heap.size w w' := by
  refine calls_pure 6 _ Try.func48 rfl Try.ntmps48 Try.results48 [.agg x.c] (by simp) (fun _ => rfl) ?_
  simp (disch := omega) only [go_sem, ↓reduceIte, Nat.reduceEqDiff, Nat.reduceLT, Nat.reduceLeDiff, Nat.reduceAdd, Nat.reduceMul, Nat.reduceSub, Nat.reduceDiv, Nat.reduceMod, Int.reduceToNat, Int.reduceLT, Int.reduceLE, Int.reduceAdd, Int.reduceSub, Int.reduceMul, Int.reduceEq, Int.reduceNeg, reduceCtorEq, or_false, false_or, decide_true, decide_false, Int.cast_ofNat_Int, Nat.zero_add, Nat.add_zero, Int.toNat_natCast, Option.isNone_none, Option.isNone_some, Bool.not_true, Bool.not_false, Bool.xor_true, Bool.xor_false, Bool.true_xor, Bool.false_xor, decide_true, decide_false, Bool.and_true, Bool.true_and, Bool.and_false, Bool.false_and, eq_self, ne_eq, not_false_eq_true, not_true_eq_false, true_and, and_true, and_self, wrapI64, wrapu64, wrapu32, wrapu8, ltT, ltF, leT, leF, eqF, eqT, nltT, nleT, neqFn]
  refine scall_pure [x.val] (.c (.v (.bool x.right))) (.bool x.right) Try.call49 (wright_c x) rfl (fun _ => rfl) (fun _ => rfl) ?_
  simp (disch := omega) only [go_sem, ↓reduceIte, Nat.reduceEqDiff, Nat.reduceLT, Nat.reduceLeDiff, Nat.reduceAdd, Nat.reduceMul, Nat.reduceSub, Nat.reduceDiv, Nat.reduceMod, Int.reduceToNat, Int.reduceLT, Int.reduceLE, Int.reduceAdd, Int.reduceSub, Int.reduceMul, Int.reduceEq, Int.reduceNeg, reduceCtorEq, or_false, false_or, decide_true, decide_false, Int.cast_ofNat_Int, Nat.zero_add, Nat.add_zero, Int.toNat_natCast, Option.isNone_none, Option.isNone_some, Bool.not_true, Bool.not_false, Bool.xor_true, Bool.xor_false, Bool.true_xor, Bool.false_xor, decide_true, decide_false, Bool.and_true, Bool.true_and, Bool.and_false, Bool.false_and, eq_self, ne_eq, not_false_eq_true, not_true_eq_false, true_and, and_true, and_self, wrapI64, wrapu64, wrapu32, wrapu8, ltT, ltF, leT, leF, eqF, eqT, nltT, nleT, neqFn]
  exact fun ρ a w hs _ => ⟨rfl, hs.grown⟩
def ShS.pushB (s : ShS) (st : Stp) (ws : List Wr) : Bool := st.right && (!(ws.any fun x => !x.right) && decide (s.w.length < s.room))
def ShS.push (s : ShS) (st : Stp) (ws : List Wr) : ShS := if s.pushB st ws then { s with w := s.w ++ [(st, ws)] } else s
def wslv (n b o c : Nat) : Value := if n = 0 then .slice none 0 0 else .slice (some ⟨b, o, none⟩) n c
end Go.Proofs.Ytagjblkfgjcmnaa
namespace Go.Proofs.Ytagjblkfgjcmnaa
open Go.RowKit Go.Sx CW
theorem push_no {s : ShS} {st : Stp} {ws : List Wr} (h : s.pushB st ws = false) : s.push st ws = s := by unfold ShS.push; rw [h]; rfl
theorem push_l (s : ShS) (st : Stp) (ws : List Wr) : (s.push st ws).l = s.l := by unfold ShS.push; split <;> rfl
theorem push_ap (s : ShS) (st : Stp) (ws : List Wr) : (s.push st ws).ap = s.ap := by unfold ShS.push; split <;> rfl
theorem push_room (s : ShS) (st : Stp) (ws : List Wr) : (s.push st ws).room = s.room := by unfold ShS.push; split <;> rfl
theorem push_w (s : ShS) (st : Stp) (ws : List Wr) : (s.push st ws).w = if s.pushB st ws then s.w ++ [(st, ws)] else s.w := by unfold ShS.push; split <;> rfl
theorem push1_s (hp : List (Nat × Blk)) (nx : Nat) (x : Wr) (d : Option Tmp) (K : St → Prop) (C : Cx) (fr : List (Nat × SV)) (nx' : Nat) (_ : nx ≤ nx') (h : dOk C.N d ∧ kput K ⟨fr, hp, nx'⟩ d (.c (.v (.bool (!x.right))))) : SCall Try.prog C 48 ([.agg x.c] ++ List.map .c []) d K ⟨fr, hp, nx'⟩ :=
  scall_pure [x.val] _ (.bool (!x.right)) Try.call48 (push1_c x) rfl (fun _ => rfl) (fun _ => rfl) h
set_option maxHeartbeats 4000000 in
set_option maxRecDepth 100000 in
theorem shpush_c (g : Nat) (s : ShS) (st : Stp) (ws : List Wr) (hlen : ws.length ≤ 1000000) (fp : List Nat) (w : World) (h : On g (ShSh s) fp w) (b o c : Nat) (hi : ImmAt w b o 4 ws.length (wrw ws)) (hb : 0 < ws.length → b ∉ fp) :
    Calls Try.prog 18 #[gptr g, st.val, wslv ws.length b o c] w (Turn g fp (.bool (s.pushB st ws)) (ShSh (s.push st ws)) w) := by
  have z0 : 0 < 4 := by decide
  have z1 : 0 < 5 := by decide
  by_cases hw0 : ws = []
  · subst hw0
    refine on_calls h 27 _ Try.func18 rfl Try.ntmps18 Try.results18 [.c (.p 0 0 0), sst st.v.a st.v.b st.v.c st.v.d st.dc, .c (.v (.slice none 0 0))] (by simp) (fun ρ' h1 h2 => by simp [SV.denL, SV.den, CV.den, CV.denL, gptr, h1, h2, wslv, Stp.val, Stp.l]) (fun ρ nx hp hsh hg hb => ?_)
    obtain ⟨rfl, gl, m, es, fpl, fpc, hR, rfl⟩ := hsh
    simp (disch := omega) only [go_sem, ↓reduceIte, Nat.reduceEqDiff, Nat.reduceLT, Nat.reduceLeDiff, Nat.reduceAdd, Nat.reduceMul, Nat.reduceSub, Nat.reduceDiv, Nat.reduceMod, Int.reduceToNat, Int.reduceLT, Int.reduceLE, Int.reduceAdd, Int.reduceSub, Int.reduceMul, Int.reduceEq, Int.reduceNeg, reduceCtorEq, or_false, false_or, decide_true, decide_false, Int.cast_ofNat_Int, Nat.zero_add, Nat.add_zero, Int.toNat_natCast, Option.isNone_none, Option.isNone_some, Bool.not_true, Bool.not_false, Bool.xor_true, Bool.xor_false, Bool.true_xor, Bool.false_xor, decide_true, decide_false, Bool.and_true, Bool.true_and, Bool.and_false, Bool.false_and, eq_self, ne_eq, not_false_eq_true, not_true_eq_false, true_and, and_true, and_self, wrapI64, wrapu64, wrapu32, wrapu8, ltT, ltF, leT, leF, eqF, eqT, nltT, nleT, neqFn]
    refine sdraw [.t 0, .r 1, .t 2, .t 3, .t 4, .r 5, .t 6, .t 7, .t 8, .t 9, .t 10, .t 11, .t 12, .t 13, .t 14, .r 15, .t 16, .r 17, .t 18, .t 19] 20 [(0, _), (4, _)] rfl (by kernel_rfl) ⟨rfl, rfl, trivial⟩ ?_
    simp (disch := omega) only [go_sem, ↓reduceIte, Nat.reduceEqDiff, Nat.reduceLT, Nat.reduceLeDiff, Nat.reduceAdd, Nat.reduceMul, Nat.reduceSub, Nat.reduceDiv, Nat.reduceMod, Int.reduceToNat, Int.reduceLT, Int.reduceLE, Int.reduceAdd, Int.reduceSub, Int.reduceMul, Int.reduceEq, Int.reduceNeg, reduceCtorEq, or_false, false_or, decide_true, decide_false, Int.cast_ofNat_Int, Nat.zero_add, Nat.add_zero, Int.toNat_natCast, Option.isNone_none, Option.isNone_some, Bool.not_true, Bool.not_false, Bool.xor_true, Bool.xor_false, Bool.true_xor, Bool.false_xor, decide_true, decide_false, Bool.and_true, Bool.true_and, Bool.and_false, Bool.false_and, eq_self, ne_eq, not_false_eq_true, not_true_eq_false, true_and, and_true, and_self, wrapI64, wrapu64, wrapu32, wrapu8, ltT, ltF, leT, leF, eqF, eqT, nltT, nleT, neqFn]
    refine sright_s ?_
    cases hr : Stp.right ⟨⟨st.v.a, st.v.b, st.v.c, st.v.d⟩, st.dc⟩
    · simp (disch := omega) only [go_sem, ↓reduceIte, Nat.reduceEqDiff, Nat.reduceLT, Nat.reduceLeDiff, Nat.reduceAdd, Nat.reduceMul, Nat.reduceSub, Nat.reduceDiv, Nat.reduceMod, Int.reduceToNat, Int.reduceLT, Int.reduceLE, Int.reduceAdd, Int.reduceSub, Int.reduceMul, Int.reduceEq, Int.reduceNeg, reduceCtorEq, or_false, false_or, decide_true, decide_false, Int.cast_ofNat_Int, Nat.zero_add, Nat.add_zero, Int.toNat_natCast, Option.isNone_none, Option.isNone_some, Bool.not_true, Bool.not_false, Bool.xor_true, Bool.xor_false, Bool.true_xor, Bool.false_xor, decide_true, decide_false, Bool.and_true, Bool.true_and, Bool.and_false, Bool.false_and, eq_self, ne_eq, not_false_eq_true, not_true_eq_false, true_and, and_true, and_self, wrapI64, wrapu64, wrapu32, wrapu8, ltT, ltF, leT, leF, eqF, eqT, nltT, nleT, neqFn]
      have hpb : s.pushB st [] = false := by unfold ShS.pushB; rw [show st.right = false from hr]; rfl
      refine fun ρ' a w' hs' hag => ?_
      obtain ⟨fp', hon, hch⟩ := sh_end s rfl rfl hs' ((congrArg Nm.blk (hag 0 z0)).trans hg) ((congrArg Nm.base (hag 0 z0)).trans hb) hR.1 hR.2 rfl rfl rfl rfl
      exact ⟨fp', by rw [hpb]; rfl, by rw [push_no hpb]; exact hon, hch⟩
    · simp (disch := omega) only [go_sem, ↓reduceIte, Nat.reduceEqDiff, Nat.reduceLT, Nat.reduceLeDiff, Nat.reduceAdd, Nat.reduceMul, Nat.reduceSub, Nat.reduceDiv, Nat.reduceMod, Int.reduceToNat, Int.reduceLT, Int.reduceLE, Int.reduceAdd, Int.reduceSub, Int.reduceMul, Int.reduceEq, Int.reduceNeg, reduceCtorEq, or_false, false_or, decide_true, decide_false, Int.cast_ofNat_Int, Nat.zero_add, Nat.add_zero, Int.toNat_natCast, Option.isNone_none, Option.isNone_some, Bool.not_true, Bool.not_false, Bool.xor_true, Bool.xor_false, Bool.true_xor, Bool.false_xor, decide_true, decide_false, Bool.and_true, Bool.true_and, Bool.and_false, Bool.false_and, eq_self, ne_eq, not_false_eq_true, not_true_eq_false, true_and, and_true, and_self, wrapI64, wrapu64, wrapu32, wrapu8, ltT, ltF, leT, leF, eqF, eqT, nltT, nleT, neqFn]
      refine contains_s (ws := []) (.nil rfl) (by simp) (fun x => !x.right) 48 [] (push1_s _ _) (Nat.le_of_ble_eq_true rfl) rfl ?_
      simp (disch := omega) only [go_sem, ↓reduceIte, Nat.reduceEqDiff, Nat.reduceLT, Nat.reduceLeDiff, Nat.reduceAdd, Nat.reduceMul, Nat.reduceSub, Nat.reduceDiv, Nat.reduceMod, Int.reduceToNat, Int.reduceLT, Int.reduceLE, Int.reduceAdd, Int.reduceSub, Int.reduceMul, Int.reduceEq, Int.reduceNeg, reduceCtorEq, or_false, false_or, decide_true, decide_false, Int.cast_ofNat_Int, Nat.zero_add, Nat.add_zero, Int.toNat_natCast, Option.isNone_none, Option.isNone_some, Bool.not_true, Bool.not_false, Bool.xor_true, Bool.xor_false, Bool.true_xor, Bool.false_xor, decide_true, decide_false, Bool.and_true, Bool.true_and, Bool.and_false, Bool.false_and, eq_self, ne_eq, not_false_eq_true, not_true_eq_false, true_and, and_true, and_self, wrapI64, wrapu64, wrapu32, wrapu8, ltT, ltF, leT, leF, eqF, eqT, nltT, nleT, neqFn, List.any_nil]
      refine clone_s (ws := []) (.nil rfl) (by simp) (Nat.le_of_ble_eq_true rfl) rfl (fun _ => ?_) (fun h => absurd h (by simp))
      simp (disch := omega) only [go_sem, ↓reduceIte, Nat.reduceEqDiff, Nat.reduceLT, Nat.reduceLeDiff, Nat.reduceAdd, Nat.reduceMul, Nat.reduceSub, Nat.reduceDiv, Nat.reduceMod, Int.reduceToNat, Int.reduceLT, Int.reduceLE, Int.reduceAdd, Int.reduceSub, Int.reduceMul, Int.reduceEq, Int.reduceNeg, reduceCtorEq, or_false, false_or, decide_true, decide_false, Int.cast_ofNat_Int, Nat.zero_add, Nat.add_zero, Int.toNat_natCast, Option.isNone_none, Option.isNone_some, Bool.not_true, Bool.not_false, Bool.xor_true, Bool.xor_false, Bool.true_xor, Bool.false_xor, decide_true, decide_false, Bool.and_true, Bool.true_and, Bool.and_false, Bool.false_and, eq_self, ne_eq, not_false_eq_true, not_true_eq_false, true_and, and_true, and_self, wrapI64, wrapu64, wrapu32, wrapu8, ltT, ltF, leT, leF, eqF, eqT, nltT, nleT, neqFn]
      refine lput_s0 1 st rfl rfl fun fp' => ?_
      simp (disch := omega) only [go_sem, ↓reduceIte, Nat.reduceEqDiff, Nat.reduceLT, Nat.reduceLeDiff, Nat.reduceAdd, Nat.reduceMul, Nat.reduceSub, Nat.reduceDiv, Nat.reduceMod, Int.reduceToNat, Int.reduceLT, Int.reduceLE, Int.reduceAdd, Int.reduceSub, Int.reduceMul, Int.reduceEq, Int.reduceNeg, reduceCtorEq, or_false, false_or, decide_true, decide_false, Int.cast_ofNat_Int, Nat.zero_add, Nat.add_zero, Int.toNat_natCast, Option.isNone_none, Option.isNone_some, Bool.not_true, Bool.not_false, Bool.xor_true, Bool.xor_false, Bool.true_xor, Bool.false_xor, decide_true, decide_false, Bool.and_true, Bool.true_and, Bool.and_false, Bool.false_and, eq_self, ne_eq, not_false_eq_true, not_true_eq_false, true_and, and_true, and_self, wrapI64, wrapu64, wrapu32, wrapu8, ltT, ltF, leT, leF, eqF, eqT, nltT, nleT, neqFn]
      have hpb : s.pushB st [] = decide (s.w.length < s.room) := by unfold ShS.pushB; rw [show st.right = true from hr]; simp
      refine fun ρ' a w' hs' hag => ?_
      obtain ⟨fp', hon, hch⟩ := sh_end (s.push st []) rfl rfl hs' ((congrArg Nm.blk (hag 0 z0)).trans hg) ((congrArg Nm.base (hag 0 z0)).trans hb) (es := es) (m := m) (gl := gl) (fpl := fp') (by rw [push_l]; exact hR.1) (by rw [push_l]; exact hR.2) (by rw [push_ap]; rfl) (by rw [push_room, push_w, hpb]; rfl) rfl rfl
      exact ⟨fp', by rw [hpb]; rfl, hon, hch⟩
  · have hpos : 0 < ws.length := List.length_pos_iff.2 hw0
    refine on_callsI h hi hb 27 _ Try.func18 rfl Try.ntmps18 Try.results18 (fun k => [.c (.p 0 0 0), sst st.v.a st.v.b st.v.c st.v.d st.dc, .c (.s k 0 ws.length c)]) (by simp) (fun k ρ' h1 h2 h3 => by simp [SV.denL, SV.den, CV.den, CV.denL, gptr, h1, h2, h3, wslv, Stp.val, Stp.l, Nat.ne_of_gt hpos]) (fun ρ nx hp hsh hg hb hat => ?_)
    obtain ⟨rfl, gl, m, es, fpl, fpc, hR, rfl⟩ := hsh
    simp (disch := omega) only [go_sem, ↓reduceIte, Nat.reduceEqDiff, Nat.reduceLT, Nat.reduceLeDiff, Nat.reduceAdd, Nat.reduceMul, Nat.reduceSub, Nat.reduceDiv, Nat.reduceMod, Int.reduceToNat, Int.reduceLT, Int.reduceLE, Int.reduceAdd, Int.reduceSub, Int.reduceMul, Int.reduceEq, Int.reduceNeg, reduceCtorEq, or_false, false_or, decide_true, decide_false, Int.cast_ofNat_Int, Nat.zero_add, Nat.add_zero, Int.toNat_natCast, Option.isNone_none, Option.isNone_some, Bool.not_true, Bool.not_false, Bool.xor_true, Bool.xor_false, Bool.true_xor, Bool.false_xor, decide_true, decide_false, Bool.and_true, Bool.true_and, Bool.and_false, Bool.false_and, eq_self, ne_eq, not_false_eq_true, not_true_eq_false, true_and, and_true, and_self, wrapI64, wrapu64, wrapu32, wrapu8, ltT, ltF, leT, leF, eqF, eqT, nltT, nleT, neqFn]
    refine sdraw [.t 0, .r 1, .t 2, .t 3, .t 4, .r 5, .t 6, .t 7, .t 8, .t 9, .t 10, .t 11, .t 12, .t 13, .t 14, .r 15, .t 16, .r 17, .t 18, .t 19] 20 [(0, _), (5, _)] rfl (by kernel_rfl) ⟨rfl, rfl, trivial⟩ ?_
    simp (disch := omega) only [go_sem, ↓reduceIte, Nat.reduceEqDiff, Nat.reduceLT, Nat.reduceLeDiff, Nat.reduceAdd, Nat.reduceMul, Nat.reduceSub, Nat.reduceDiv, Nat.reduceMod, Int.reduceToNat, Int.reduceLT, Int.reduceLE, Int.reduceAdd, Int.reduceSub, Int.reduceMul, Int.reduceEq, Int.reduceNeg, reduceCtorEq, or_false, false_or, decide_true, decide_false, Int.cast_ofNat_Int, Nat.zero_add, Nat.add_zero, Int.toNat_natCast, Option.isNone_none, Option.isNone_some, Bool.not_true, Bool.not_false, Bool.xor_true, Bool.xor_false, Bool.true_xor, Bool.false_xor, decide_true, decide_false, Bool.and_true, Bool.true_and, Bool.and_false, Bool.false_and, eq_self, ne_eq, not_false_eq_true, not_true_eq_false, true_and, and_true, and_self, wrapI64, wrapu64, wrapu32, wrapu8, ltT, ltF, leT, leF, eqF, eqT, nltT, nleT, neqFn]
    refine sright_s ?_
    cases hr : Stp.right ⟨⟨st.v.a, st.v.b, st.v.c, st.v.d⟩, st.dc⟩
    · simp (disch := omega) only [go_sem, ↓reduceIte, Nat.reduceEqDiff, Nat.reduceLT, Nat.reduceLeDiff, Nat.reduceAdd, Nat.reduceMul, Nat.reduceSub, Nat.reduceDiv, Nat.reduceMod, Int.reduceToNat, Int.reduceLT, Int.reduceLE, Int.reduceAdd, Int.reduceSub, Int.reduceMul, Int.reduceEq, Int.reduceNeg, reduceCtorEq, or_false, false_or, decide_true, decide_false, Int.cast_ofNat_Int, Nat.zero_add, Nat.add_zero, Int.toNat_natCast, Option.isNone_none, Option.isNone_some, Bool.not_true, Bool.not_false, Bool.xor_true, Bool.xor_false, Bool.true_xor, Bool.false_xor, decide_true, decide_false, Bool.and_true, Bool.true_and, Bool.and_false, Bool.false_and, eq_self, ne_eq, not_false_eq_true, not_true_eq_false, true_and, and_true, and_self, wrapI64, wrapu64, wrapu32, wrapu8, ltT, ltF, leT, leF, eqF, eqT, nltT, nleT, neqFn]
      have hpb : s.pushB st ws = false := by unfold ShS.pushB; rw [show st.right = false from hr]; rfl
      refine fun ρ' a w' hs' hag => ?_
      obtain ⟨fp', hon, hch⟩ := sh_end s rfl rfl hs' ((congrArg Nm.blk (hag 0 z1)).trans hg) ((congrArg Nm.base (hag 0 z1)).trans hb) hR.1 hR.2 rfl rfl rfl rfl
      exact ⟨fp', by rw [hpb]; rfl, by rw [push_no hpb]; exact hon, hch⟩
    · simp (disch := omega) only [go_sem, ↓reduceIte, Nat.reduceEqDiff, Nat.reduceLT, Nat.reduceLeDiff, Nat.reduceAdd, Nat.reduceMul, Nat.reduceSub, Nat.reduceDiv, Nat.reduceMod, Int.reduceToNat, Int.reduceLT, Int.reduceLE, Int.reduceAdd, Int.reduceSub, Int.reduceMul, Int.reduceEq, Int.reduceNeg, reduceCtorEq, or_false, false_or, decide_true, decide_false, Int.cast_ofNat_Int, Nat.zero_add, Nat.add_zero, Int.toNat_natCast, Option.isNone_none, Option.isNone_some, Bool.not_true, Bool.not_false, Bool.xor_true, Bool.xor_false, Bool.true_xor, Bool.false_xor, decide_true, decide_false, Bool.and_true, Bool.true_and, Bool.and_false, Bool.false_and, eq_self, ne_eq, not_false_eq_true, not_true_eq_false, true_and, and_true, and_self, wrapI64, wrapu64, wrapu32, wrapu8, ltT, ltF, leT, leF, eqF, eqT, nltT, nleT, neqFn]
      refine contains_s (ws := ws) (.imm 4 0 c ws.length _ rfl ⟨hpos, by omega⟩ (fun i hi => by rw [Nat.zero_add])) (by omega) (fun x => !x.right) 48 [] (push1_s _ _) (Nat.le_of_ble_eq_true rfl) rfl ?_
      cases hany : ws.any fun x => !x.right
      · simp (disch := omega) only [go_sem, ↓reduceIte, Nat.reduceEqDiff, Nat.reduceLT, Nat.reduceLeDiff, Nat.reduceAdd, Nat.reduceMul, Nat.reduceSub, Nat.reduceDiv, Nat.reduceMod, Int.reduceToNat, Int.reduceLT, Int.reduceLE, Int.reduceAdd, Int.reduceSub, Int.reduceMul, Int.reduceEq, Int.reduceNeg, reduceCtorEq, or_false, false_or, decide_true, decide_false, Int.cast_ofNat_Int, Nat.zero_add, Nat.add_zero, Int.toNat_natCast, Option.isNone_none, Option.isNone_some, Bool.not_true, Bool.not_false, Bool.xor_true, Bool.xor_false, Bool.true_xor, Bool.false_xor, decide_true, decide_false, Bool.and_true, Bool.true_and, Bool.and_false, Bool.false_and, eq_self, ne_eq, not_false_eq_true, not_true_eq_false, true_and, and_true, and_self, wrapI64, wrapu64, wrapu32, wrapu8, ltT, ltF, leT, leF, eqF, eqT, nltT, nleT, neqFn]
        refine clone_s (ws := ws) (.imm 4 0 c ws.length _ rfl ⟨hpos, by omega⟩ (fun i hi => by rw [Nat.zero_add])) (by omega) (Nat.le_of_ble_eq_true rfl) rfl (fun h => absurd h hw0) (fun _ c' hc' => ?_)
        simp (disch := omega) only [go_sem, ↓reduceIte, Nat.reduceEqDiff, Nat.reduceLT, Nat.reduceLeDiff, Nat.reduceAdd, Nat.reduceMul, Nat.reduceSub, Nat.reduceDiv, Nat.reduceMod, Int.reduceToNat, Int.reduceLT, Int.reduceLE, Int.reduceAdd, Int.reduceSub, Int.reduceMul, Int.reduceEq, Int.reduceNeg, reduceCtorEq, or_false, false_or, decide_true, decide_false, Int.cast_ofNat_Int, Nat.zero_add, Nat.add_zero, Int.toNat_natCast, Option.isNone_none, Option.isNone_some, Bool.not_true, Bool.not_false, Bool.xor_true, Bool.xor_false, Bool.true_xor, Bool.false_xor, decide_true, decide_false, Bool.and_true, Bool.true_and, Bool.and_false, Bool.false_and, eq_self, ne_eq, not_false_eq_true, not_true_eq_false, true_and, and_true, and_self, wrapI64, wrapu64, wrapu32, wrapu8, ltT, ltF, leT, leF, eqF, eqT, nltT, nleT, neqFn]
        refine lput_s 1 7 (by decide) st ws ⟨hpos, hc'⟩ (fun i hi => rfl) rfl rfl rfl fun fp' => ?_
        simp (disch := omega) only [go_sem, ↓reduceIte, Nat.reduceEqDiff, Nat.reduceLT, Nat.reduceLeDiff, Nat.reduceAdd, Nat.reduceMul, Nat.reduceSub, Nat.reduceDiv, Nat.reduceMod, Int.reduceToNat, Int.reduceLT, Int.reduceLE, Int.reduceAdd, Int.reduceSub, Int.reduceMul, Int.reduceEq, Int.reduceNeg, reduceCtorEq, or_false, false_or, decide_true, decide_false, Int.cast_ofNat_Int, Nat.zero_add, Nat.add_zero, Int.toNat_natCast, Option.isNone_none, Option.isNone_some, Bool.not_true, Bool.not_false, Bool.xor_true, Bool.xor_false, Bool.true_xor, Bool.false_xor, decide_true, decide_false, Bool.and_true, Bool.true_and, Bool.and_false, Bool.false_and, eq_self, ne_eq, not_false_eq_true, not_true_eq_false, true_and, and_true, and_self, wrapI64, wrapu64, wrapu32, wrapu8, ltT, ltF, leT, leF, eqF, eqT, nltT, nleT, neqFn]
        have hpb : s.pushB st ws = decide (s.w.length < s.room) := by unfold ShS.pushB; rw [show st.right = true from hr, hany]; simp
        refine fun ρ' a w' hs' hag => ?_
        obtain ⟨fp', hon, hch⟩ := sh_end (s.push st ws) rfl rfl hs' ((congrArg Nm.blk (hag 0 z1)).trans hg) ((congrArg Nm.base (hag 0 z1)).trans hb) (es := es) (m := m) (gl := gl) (fpl := fp') (by rw [push_l]; exact hR.1) (by rw [push_l]; exact hR.2) (by rw [push_ap]; rfl) (by rw [push_room, push_w, hpb]; rfl) rfl rfl
        exact ⟨fp', by rw [hpb]; rfl, hon, hch⟩
      · simp (disch := omega) only [go_sem, ↓reduceIte, Nat.reduceEqDiff, Nat.reduceLT, Nat.reduceLeDiff, Nat.reduceAdd, Nat.reduceMul, Nat.reduceSub, Nat.reduceDiv, Nat.reduceMod, Int.reduceToNat, Int.reduceLT, Int.reduceLE, Int.reduceAdd, Int.reduceSub, Int.reduceMul, Int.reduceEq, Int.reduceNeg, reduceCtorEq, or_false, false_or, decide_true, decide_false, Int.cast_ofNat_Int, Nat.zero_add, Nat.add_zero, Int.toNat_natCast, Option.isNone_none, Option.isNone_some, Bool.not_true, Bool.not_false, Bool.xor_true, Bool.xor_false, Bool.true_xor, Bool.false_xor, decide_true, decide_false, Bool.and_true, Bool.true_and, Bool.and_false, Bool.false_and, eq_self, ne_eq, not_false_eq_true, not_true_eq_false, true_and, and_true, and_self, wrapI64, wrapu64, wrapu32, wrapu8, ltT, ltF, leT, leF, eqF, eqT, nltT, nleT, neqFn]
        have hpb : s.pushB st ws = false := by unfold ShS.pushB; rw [show st.right = true from hr, hany]; rfl
        refine fun ρ' a w' hs' hag => ?_
        obtain ⟨fp', hon, hch⟩ := sh_end s rfl rfl hs' ((congrArg Nm.blk (hag 0 z1)).trans hg) ((congrArg Nm.base (hag 0 z1)).trans hb) hR.1 hR.2 rfl rfl rfl rfl
        exact ⟨fp', by rw [hpb]; rfl, by rw [push_no hpb]; exact hon, hch⟩
end Go.Proofs.Ytagjblkfgjcmnaa
namespace Go.Proofs.Ytagjblkfgjcmnaa
open Go.RowKit Go.Sx CW
def ShS.rd (s : ShS) (k : Ky) (at' : V4) : Ver := rdV (chn s.l k) fun x => x.st.seen at'
def ShS.rdO (s : ShS) (k : Ky) (at' : V4) : Bool := rdB (chn s.l k) fun x => x.st.seen at'
def ShS.la (s : ShS) (k : Ky) : Ver := rdV (chn s.l k) fun _ => true
def ShS.laO (s : ShS) (k : Ky) : Bool := rdB (chn s.l k) fun _ => true
set_option maxHeartbeats 4000000 in
set_option maxRecDepth 100000 in
theorem shread_c (g : Nat) (s : ShS) (hl : s.l.length ≤ 100000) (k : Ky) (at' : V4) (fp : List Nat) (w : World) (h : On g (ShSh s) fp w) :
    Calls Try.prog 22 #[gptr g, .string k.1, .string k.2, at'.v] w (Turn g fp (.tuple #[.string (s.rd k at').x.x, (s.rd k at').st.val, .bool (s.rdO k at' && !(s.rd k at').x.g)]) (ShSh s) w) := by
  have z0 : 0 < 4 := by decide
  refine on_calls h 34 _ Try.func22 rfl Try.ntmps22 Try.results22 [.c (.p 0 0 0), .c (.v (.string k.1)), .c (.v (.string k.2)), at'.sv] (by simp) (fun ρ' h1 h2 => by simp [SV.denL, SV.den, CV.den, CV.denL, gptr, h1, h2]) (fun ρ nx hp hsh hg hb => ?_)
  obtain ⟨rfl, gl, m, es, fpl, fpc, hR, rfl⟩ := hsh
  simp (disch := omega) only [go_sem, ↓reduceIte, Nat.reduceEqDiff, Nat.reduceLT, Nat.reduceLeDiff, Nat.reduceAdd, Nat.reduceMul, Nat.reduceSub, Nat.reduceDiv, Nat.reduceMod, Int.reduceToNat, Int.reduceLT, Int.reduceLE, Int.reduceAdd, Int.reduceSub, Int.reduceMul, Int.reduceEq, Int.reduceNeg, reduceCtorEq, or_false, false_or, decide_true, decide_false, Int.cast_ofNat_Int, Nat.zero_add, Nat.add_zero, Int.toNat_natCast, Option.isNone_none, Option.isNone_some, Bool.not_true, Bool.not_false, Bool.xor_true, Bool.xor_false, Bool.true_xor, Bool.false_xor, decide_true, decide_false, Bool.and_true, Bool.true_and, Bool.and_false, Bool.false_and, eq_self, ne_eq, not_false_eq_true, not_true_eq_false, true_and, and_true, and_self, wrapI64, wrapu64, wrapu32, wrapu8, ltT, ltF, leT, leF, eqF, eqT, nltT, nleT, neqFn]
  refine sdraw [.t 0, .t 1, .t 2, .t 4, .c 3 [.c 5 [.t 6, .t 7, .t 8, .r 9, .r 10, .t 11] 9 [.r 5, .t 6, .t 7, .t 8, .r 10, .t 11]] 9 [.r 3, .r 5, .t 6, .t 7, .t 8, .r 10, .t 11]] 12 [(4, _)] rfl (by kernel_rfl) ⟨rfl, trivial⟩ ?_
  simp (disch := omega) only [go_sem, ↓reduceIte, Nat.reduceEqDiff, Nat.reduceLT, Nat.reduceLeDiff, Nat.reduceAdd, Nat.reduceMul, Nat.reduceSub, Nat.reduceDiv, Nat.reduceMod, Int.reduceToNat, Int.reduceLT, Int.reduceLE, Int.reduceAdd, Int.reduceSub, Int.reduceMul, Int.reduceEq, Int.reduceNeg, reduceCtorEq, or_false, false_or, decide_true, decide_false, Int.cast_ofNat_Int, Nat.zero_add, Nat.add_zero, Int.toNat_natCast, Option.isNone_none, Option.isNone_some, Bool.not_true, Bool.not_false, Bool.xor_true, Bool.xor_false, Bool.true_xor, Bool.false_xor, decide_true, decide_false, Bool.and_true, Bool.true_and, Bool.and_false, Bool.false_and, eq_self, ne_eq, not_false_eq_true, not_true_eq_false, true_and, and_true, and_self, wrapI64, wrapu64, wrapu32, wrapu8, ltT, ltF, leT, leF, eqF, eqT, nltT, nleT, neqFn]
  refine ⟨?_, ?_⟩
  · refine of_s 0 2 3 k rfl rfl rfl (by decide) (Nat.le_of_ble_eq_true rfl) fun a g0 c b fp1 ha ht => ?_
    simp (disch := omega) only [go_sem, ↓reduceIte, Nat.reduceEqDiff, Nat.reduceLT, Nat.reduceLeDiff, Nat.reduceAdd, Nat.reduceMul, Nat.reduceSub, Nat.reduceDiv, Nat.reduceMod, Int.reduceToNat, Int.reduceLT, Int.reduceLE, Int.reduceAdd, Int.reduceSub, Int.reduceMul, Int.reduceEq, Int.reduceNeg, reduceCtorEq, or_false, false_or, decide_true, decide_false, Int.cast_ofNat_Int, Nat.zero_add, Nat.add_zero, Int.toNat_natCast, Option.isNone_none, Option.isNone_some, Bool.not_true, Bool.not_false, Bool.xor_true, Bool.xor_false, Bool.true_xor, Bool.false_xor, decide_true, decide_false, Bool.and_true, Bool.true_and, Bool.and_false, Bool.false_and, eq_self, ne_eq, not_false_eq_true, not_true_eq_false, true_and, and_true, and_self, wrapI64, wrapu64, wrapu32, wrapu8, ltT, ltF, leT, leF, eqF, eqT, nltT, nleT, neqFn]
    have hR' := hR.1.touch ht
    have hc := hR'.chn
    refine ⟨?_, ?_⟩
    · refine all_same_s 3 a b (k, g0, c) CR.stable [gptr g0, at'.v] (.tuple #[(s.rd k at').val, .bool (s.rdO k at')]) (.tup [.agg (Ver.c (s.rd k at')), .c (.v (.bool (s.rdO k at')))]) Try.call56 (fun f1 w h => by
        have := cread_c g0 c (by rw [hc]; exact Nat.le_trans (chn_le hR.2 k) (by omega)) at' f1 w h
        rw [hc] at this
        subst hc
        exact this) rfl rfl (fun _ => rfl) (fun _ => rfl) rfl ?_
      simp (disch := omega) only [go_sem, ↓reduceIte, Nat.reduceEqDiff, Nat.reduceLT, Nat.reduceLeDiff, Nat.reduceAdd, Nat.reduceMul, Nat.reduceSub, Nat.reduceDiv, Nat.reduceMod, Int.reduceToNat, Int.reduceLT, Int.reduceLE, Int.reduceAdd, Int.reduceSub, Int.reduceMul, Int.reduceEq, Int.reduceNeg, reduceCtorEq, or_false, false_or, decide_true, decide_false, Int.cast_ofNat_Int, Nat.zero_add, Nat.add_zero, Int.toNat_natCast, Option.isNone_none, Option.isNone_some, Bool.not_true, Bool.not_false, Bool.xor_true, Bool.xor_false, Bool.true_xor, Bool.false_xor, decide_true, decide_false, Bool.and_true, Bool.true_and, Bool.and_false, Bool.false_and, eq_self, ne_eq, not_false_eq_true, not_true_eq_false, true_and, and_true, and_self, wrapI64, wrapu64, wrapu32, wrapu8, ltT, ltF, leT, leF, eqF, eqT, nltT, nleT, neqFn, Ver.c]
      refine sdraw [.t 0, .t 1, .t 2, .t 3, .t 4, .t 5, .t 6, .t 7, .t 8, .t 9, .t 10, .t 11, .t 12, .r 13, .t 14] 15 [(7, _)] rfl (by kernel_rfl) ⟨rfl, trivial⟩ ?_
      simp (disch := omega) only [go_sem, ↓reduceIte, Nat.reduceEqDiff, Nat.reduceLT, Nat.reduceLeDiff, Nat.reduceAdd, Nat.reduceMul, Nat.reduceSub, Nat.reduceDiv, Nat.reduceMod, Int.reduceToNat, Int.reduceLT, Int.reduceLE, Int.reduceAdd, Int.reduceSub, Int.reduceMul, Int.reduceEq, Int.reduceNeg, reduceCtorEq, or_false, false_or, decide_true, decide_false, Int.cast_ofNat_Int, Nat.zero_add, Nat.add_zero, Int.toNat_natCast, Option.isNone_none, Option.isNone_some, Bool.not_true, Bool.not_false, Bool.xor_true, Bool.xor_false, Bool.true_xor, Bool.false_xor, decide_true, decide_false, Bool.and_true, Bool.true_and, Bool.and_false, Bool.false_and, eq_self, ne_eq, not_false_eq_true, not_true_eq_false, true_and, and_true, and_self, wrapI64, wrapu64, wrapu32, wrapu8, ltT, ltF, leT, leF, eqF, eqT, nltT, nleT, neqFn, Ver.c]
      cases ho : s.rdO k at'
      · simp (disch := omega) only [go_sem, ↓reduceIte, Nat.reduceEqDiff, Nat.reduceLT, Nat.reduceLeDiff, Nat.reduceAdd, Nat.reduceMul, Nat.reduceSub, Nat.reduceDiv, Nat.reduceMod, Int.reduceToNat, Int.reduceLT, Int.reduceLE, Int.reduceAdd, Int.reduceSub, Int.reduceMul, Int.reduceEq, Int.reduceNeg, reduceCtorEq, or_false, false_or, decide_true, decide_false, Int.cast_ofNat_Int, Nat.zero_add, Nat.add_zero, Int.toNat_natCast, Option.isNone_none, Option.isNone_some, Bool.not_true, Bool.not_false, Bool.xor_true, Bool.xor_false, Bool.true_xor, Bool.false_xor, decide_true, decide_false, Bool.and_true, Bool.true_and, Bool.and_false, Bool.false_and, eq_self, ne_eq, not_false_eq_true, not_true_eq_false, true_and, and_true, and_self, wrapI64, wrapu64, wrapu32, wrapu8, ltT, ltF, leT, leF, eqF, eqT, nltT, nleT, neqFn, Ver.c]
        refine fun ρ' a w' hs' hag => ?_
        obtain ⟨fp', hon, hch⟩ := sh_end s rfl rfl hs' ((congrArg Nm.blk (hag 0 z0)).trans hg) ((congrArg Nm.base (hag 0 z0)).trans hb) hR' hR.2 rfl rfl rfl rfl
        exact ⟨fp', by simp [SV.den, SV.denL, CV.den, CV.denL, Stp.val, Stp.l], hon, hch⟩
      · simp (disch := omega) only [go_sem, ↓reduceIte, Nat.reduceEqDiff, Nat.reduceLT, Nat.reduceLeDiff, Nat.reduceAdd, Nat.reduceMul, Nat.reduceSub, Nat.reduceDiv, Nat.reduceMod, Int.reduceToNat, Int.reduceLT, Int.reduceLE, Int.reduceAdd, Int.reduceSub, Int.reduceMul, Int.reduceEq, Int.reduceNeg, reduceCtorEq, or_false, false_or, decide_true, decide_false, Int.cast_ofNat_Int, Nat.zero_add, Nat.add_zero, Int.toNat_natCast, Option.isNone_none, Option.isNone_some, Bool.not_true, Bool.not_false, Bool.xor_true, Bool.xor_false, Bool.true_xor, Bool.false_xor, decide_true, decide_false, Bool.and_true, Bool.true_and, Bool.and_false, Bool.false_and, eq_self, ne_eq, not_false_eq_true, not_true_eq_false, true_and, and_true, and_self, wrapI64, wrapu64, wrapu32, wrapu8, ltT, ltF, leT, leF, eqF, eqT, nltT, nleT, neqFn, Ver.c]
        refine fun ρ' a w' hs' hag => ?_
        obtain ⟨fp', hon, hch⟩ := sh_end s rfl rfl hs' ((congrArg Nm.blk (hag 0 z0)).trans hg) ((congrArg Nm.base (hag 0 z0)).trans hb) hR' hR.2 rfl rfl rfl rfl
        exact ⟨fp', by simp [SV.den, SV.denL, CV.den, CV.denL, Stp.val, Stp.l], hon, hch⟩
    · refine all_same_s 3 a b (k, g0, c) CR.stable [gptr g0, at'.v] (.tuple #[(s.rd k at').val, .bool (s.rdO k at')]) (.tup [.agg (Ver.c (s.rd k at')), .c (.v (.bool (s.rdO k at')))]) Try.call56 (fun f1 w h => by
        have := cread_c g0 c (by rw [hc]; exact Nat.le_trans (chn_le hR.2 k) (by omega)) at' f1 w h
        rw [hc] at this
        subst hc
        exact this) rfl rfl (fun _ => rfl) (fun _ => rfl) rfl ?_
      simp (disch := omega) only [go_sem, ↓reduceIte, Nat.reduceEqDiff, Nat.reduceLT, Nat.reduceLeDiff, Nat.reduceAdd, Nat.reduceMul, Nat.reduceSub, Nat.reduceDiv, Nat.reduceMod, Int.reduceToNat, Int.reduceLT, Int.reduceLE, Int.reduceAdd, Int.reduceSub, Int.reduceMul, Int.reduceEq, Int.reduceNeg, reduceCtorEq, or_false, false_or, decide_true, decide_false, Int.cast_ofNat_Int, Nat.zero_add, Nat.add_zero, Int.toNat_natCast, Option.isNone_none, Option.isNone_some, Bool.not_true, Bool.not_false, Bool.xor_true, Bool.xor_false, Bool.true_xor, Bool.false_xor, decide_true, decide_false, Bool.and_true, Bool.true_and, Bool.and_false, Bool.false_and, eq_self, ne_eq, not_false_eq_true, not_true_eq_false, true_and, and_true, and_self, wrapI64, wrapu64, wrapu32, wrapu8, ltT, ltF, leT, leF, eqF, eqT, nltT, nleT, neqFn, Ver.c]
      refine sdraw [.t 0, .t 1, .t 2, .t 3, .t 4, .t 5, .t 6, .t 7, .t 8, .t 9, .t 10, .t 11, .t 12, .r 13, .t 14] 15 [(7, _)] rfl (by kernel_rfl) ⟨rfl, trivial⟩ ?_
      simp (disch := omega) only [go_sem, ↓reduceIte, Nat.reduceEqDiff, Nat.reduceLT, Nat.reduceLeDiff, Nat.reduceAdd, Nat.reduceMul, Nat.reduceSub, Nat.reduceDiv, Nat.reduceMod, Int.reduceToNat, Int.reduceLT, Int.reduceLE, Int.reduceAdd, Int.reduceSub, Int.reduceMul, Int.reduceEq, Int.reduceNeg, reduceCtorEq, or_false, false_or, decide_true, decide_false, Int.cast_ofNat_Int, Nat.zero_add, Nat.add_zero, Int.toNat_natCast, Option.isNone_none, Option.isNone_some, Bool.not_true, Bool.not_false, Bool.xor_true, Bool.xor_false, Bool.true_xor, Bool.false_xor, decide_true, decide_false, Bool.and_true, Bool.true_and, Bool.and_false, Bool.false_and, eq_self, ne_eq, not_false_eq_true, not_true_eq_false, true_and, and_true, and_self, wrapI64, wrapu64, wrapu32, wrapu8, ltT, ltF, leT, leF, eqF, eqT, nltT, nleT, neqFn, Ver.c]
      cases ho : s.rdO k at'
      · simp (disch := omega) only [go_sem, ↓reduceIte, Nat.reduceEqDiff, Nat.reduceLT, Nat.reduceLeDiff, Nat.reduceAdd, Nat.reduceMul, Nat.reduceSub, Nat.reduceDiv, Nat.reduceMod, Int.reduceToNat, Int.reduceLT, Int.reduceLE, Int.reduceAdd, Int.reduceSub, Int.reduceMul, Int.reduceEq, Int.reduceNeg, reduceCtorEq, or_false, false_or, decide_true, decide_false, Int.cast_ofNat_Int, Nat.zero_add, Nat.add_zero, Int.toNat_natCast, Option.isNone_none, Option.isNone_some, Bool.not_true, Bool.not_false, Bool.xor_true, Bool.xor_false, Bool.true_xor, Bool.false_xor, decide_true, decide_false, Bool.and_true, Bool.true_and, Bool.and_false, Bool.false_and, eq_self, ne_eq, not_false_eq_true, not_true_eq_false, true_and, and_true, and_self, wrapI64, wrapu64, wrapu32, wrapu8, ltT, ltF, leT, leF, eqF, eqT, nltT, nleT, neqFn, Ver.c]
        refine fun ρ' a w' hs' hag => ?_
        obtain ⟨fp', hon, hch⟩ := sh_end s rfl rfl hs' ((congrArg Nm.blk (hag 0 z0)).trans hg) ((congrArg Nm.base (hag 0 z0)).trans hb) hR' hR.2 rfl rfl rfl rfl
        exact ⟨fp', by simp [SV.den, SV.denL, CV.den, CV.denL, Stp.val, Stp.l], hon, hch⟩
      · simp (disch := omega) only [go_sem, ↓reduceIte, Nat.reduceEqDiff, Nat.reduceLT, Nat.reduceLeDiff, Nat.reduceAdd, Nat.reduceMul, Nat.reduceSub, Nat.reduceDiv, Nat.reduceMod, Int.reduceToNat, Int.reduceLT, Int.reduceLE, Int.reduceAdd, Int.reduceSub, Int.reduceMul, Int.reduceEq, Int.reduceNeg, reduceCtorEq, or_false, false_or, decide_true, decide_false, Int.cast_ofNat_Int, Nat.zero_add, Nat.add_zero, Int.toNat_natCast, Option.isNone_none, Option.isNone_some, Bool.not_true, Bool.not_false, Bool.xor_true, Bool.xor_false, Bool.true_xor, Bool.false_xor, decide_true, decide_false, Bool.and_true, Bool.true_and, Bool.and_false, Bool.false_and, eq_self, ne_eq, not_false_eq_true, not_true_eq_false, true_and, and_true, and_self, wrapI64, wrapu64, wrapu32, wrapu8, ltT, ltF, leT, leF, eqF, eqT, nltT, nleT, neqFn, Ver.c]
        refine fun ρ' a w' hs' hag => ?_
        obtain ⟨fp', hon, hch⟩ := sh_end s rfl rfl hs' ((congrArg Nm.blk (hag 0 z0)).trans hg) ((congrArg Nm.base (hag 0 z0)).trans hb) hR' hR.2 rfl rfl rfl rfl
        exact ⟨fp', by simp [SV.den, SV.denL, CV.den, CV.denL, Stp.val, Stp.l], hon, hch⟩
  · refine of_s 0 2 3 k rfl rfl rfl (by decide) (Nat.le_of_ble_eq_true rfl) fun a g0 c b fp1 ha ht => ?_
    simp (disch := omega) only [go_sem, ↓reduceIte, Nat.reduceEqDiff, Nat.reduceLT, Nat.reduceLeDiff, Nat.reduceAdd, Nat.reduceMul, Nat.reduceSub, Nat.reduceDiv, Nat.reduceMod, Int.reduceToNat, Int.reduceLT, Int.reduceLE, Int.reduceAdd, Int.reduceSub, Int.reduceMul, Int.reduceEq, Int.reduceNeg, reduceCtorEq, or_false, false_or, decide_true, decide_false, Int.cast_ofNat_Int, Nat.zero_add, Nat.add_zero, Int.toNat_natCast, Option.isNone_none, Option.isNone_some, Bool.not_true, Bool.not_false, Bool.xor_true, Bool.xor_false, Bool.true_xor, Bool.false_xor, decide_true, decide_false, Bool.and_true, Bool.true_and, Bool.and_false, Bool.false_and, eq_self, ne_eq, not_false_eq_true, not_true_eq_false, true_and, and_true, and_self, wrapI64, wrapu64, wrapu32, wrapu8, ltT, ltF, leT, leF, eqF, eqT, nltT, nleT, neqFn]
    have hR' := hR.1.touch ht
    have hc := hR'.chn
    refine all_same_s 3 a b (k, g0, c) CR.stable [gptr g0, at'.v] (.tuple #[(s.rd k at').val, .bool (s.rdO k at')]) (.tup [.agg (Ver.c (s.rd k at')), .c (.v (.bool (s.rdO k at')))]) Try.call56 (fun f1 w h => by
      have := cread_c g0 c (by rw [hc]; exact Nat.le_trans (chn_le hR.2 k) (by omega)) at' f1 w h
      rw [hc] at this
      subst hc
      exact this) rfl rfl (fun _ => rfl) (fun _ => rfl) rfl ?_
    simp (disch := omega) only [go_sem, ↓reduceIte, Nat.reduceEqDiff, Nat.reduceLT, Nat.reduceLeDiff, Nat.reduceAdd, Nat.reduceMul, Nat.reduceSub, Nat.reduceDiv, Nat.reduceMod, Int.reduceToNat, Int.reduceLT, Int.reduceLE, Int.reduceAdd, Int.reduceSub, Int.reduceMul, Int.reduceEq, Int.reduceNeg, reduceCtorEq, or_false, false_or, decide_true, decide_false, Int.cast_ofNat_Int, Nat.zero_add, Nat.add_zero, Int.toNat_natCast, Option.isNone_none, Option.isNone_some, Bool.not_true, Bool.not_false, Bool.xor_true, Bool.xor_false, Bool.true_xor, Bool.false_xor, decide_true, decide_false, Bool.and_true, Bool.true_and, Bool.and_false, Bool.false_and, eq_self, ne_eq, not_false_eq_true, not_true_eq_false, true_and, and_true, and_self, wrapI64, wrapu64, wrapu32, wrapu8, ltT, ltF, leT, leF, eqF, eqT, nltT, nleT, neqFn, Ver.c]
    refine sdraw [.t 0, .t 1, .t 2, .t 3, .t 4, .t 5, .t 6, .t 7, .t 8, .t 9, .t 10, .t 11, .t 12, .r 13, .t 14] 15 [(6, _)] rfl (by kernel_rfl) ⟨rfl, trivial⟩ ?_
    simp (disch := omega) only [go_sem, ↓reduceIte, Nat.reduceEqDiff, Nat.reduceLT, Nat.reduceLeDiff, Nat.reduceAdd, Nat.reduceMul, Nat.reduceSub, Nat.reduceDiv, Nat.reduceMod, Int.reduceToNat, Int.reduceLT, Int.reduceLE, Int.reduceAdd, Int.reduceSub, Int.reduceMul, Int.reduceEq, Int.reduceNeg, reduceCtorEq, or_false, false_or, decide_true, decide_false, Int.cast_ofNat_Int, Nat.zero_add, Nat.add_zero, Int.toNat_natCast, Option.isNone_none, Option.isNone_some, Bool.not_true, Bool.not_false, Bool.xor_true, Bool.xor_false, Bool.true_xor, Bool.false_xor, decide_true, decide_false, Bool.and_true, Bool.true_and, Bool.and_false, Bool.false_and, eq_self, ne_eq, not_false_eq_true, not_true_eq_false, true_and, and_true, and_self, wrapI64, wrapu64, wrapu32, wrapu8, ltT, ltF, leT, leF, eqF, eqT, nltT, nleT, neqFn, Ver.c]
    cases ho : s.rdO k at'
    · simp (disch := omega) only [go_sem, ↓reduceIte, Nat.reduceEqDiff, Nat.reduceLT, Nat.reduceLeDiff, Nat.reduceAdd, Nat.reduceMul, Nat.reduceSub, Nat.reduceDiv, Nat.reduceMod, Int.reduceToNat, Int.reduceLT, Int.reduceLE, Int.reduceAdd, Int.reduceSub, Int.reduceMul, Int.reduceEq, Int.reduceNeg, reduceCtorEq, or_false, false_or, decide_true, decide_false, Int.cast_ofNat_Int, Nat.zero_add, Nat.add_zero, Int.toNat_natCast, Option.isNone_none, Option.isNone_some, Bool.not_true, Bool.not_false, Bool.xor_true, Bool.xor_false, Bool.true_xor, Bool.false_xor, decide_true, decide_false, Bool.and_true, Bool.true_and, Bool.and_false, Bool.false_and, eq_self, ne_eq, not_false_eq_true, not_true_eq_false, true_and, and_true, and_self, wrapI64, wrapu64, wrapu32, wrapu8, ltT, ltF, leT, leF, eqF, eqT, nltT, nleT, neqFn, Ver.c]
      refine fun ρ' a w' hs' hag => ?_
      obtain ⟨fp', hon, hch⟩ := sh_end s rfl rfl hs' ((congrArg Nm.blk (hag 0 z0)).trans hg) ((congrArg Nm.base (hag 0 z0)).trans hb) hR' hR.2 rfl rfl rfl rfl
      exact ⟨fp', by simp [SV.den, SV.denL, CV.den, CV.denL, Stp.val, Stp.l], hon, hch⟩
    · simp (disch := omega) only [go_sem, ↓reduceIte, Nat.reduceEqDiff, Nat.reduceLT, Nat.reduceLeDiff, Nat.reduceAdd, Nat.reduceMul, Nat.reduceSub, Nat.reduceDiv, Nat.reduceMod, Int.reduceToNat, Int.reduceLT, Int.reduceLE, Int.reduceAdd, Int.reduceSub, Int.reduceMul, Int.reduceEq, Int.reduceNeg, reduceCtorEq, or_false, false_or, decide_true, decide_false, Int.cast_ofNat_Int, Nat.zero_add, Nat.add_zero, Int.toNat_natCast, Option.isNone_none, Option.isNone_some, Bool.not_true, Bool.not_false, Bool.xor_true, Bool.xor_false, Bool.true_xor, Bool.false_xor, decide_true, decide_false, Bool.and_true, Bool.true_and, Bool.and_false, Bool.false_and, eq_self, ne_eq, not_false_eq_true, not_true_eq_false, true_and, and_true, and_self, wrapI64, wrapu64, wrapu32, wrapu8, ltT, ltF, leT, leF, eqF, eqT, nltT, nleT, neqFn, Ver.c]
      refine fun ρ' a w' hs' hag => ?_
      obtain ⟨fp', hon, hch⟩ := sh_end s rfl rfl hs' ((congrArg Nm.blk (hag 0 z0)).trans hg) ((congrArg Nm.base (hag 0 z0)).trans hb) hR' hR.2 rfl rfl rfl rfl
      exact ⟨fp', by simp [SV.den, SV.denL, CV.den, CV.denL, Stp.val, Stp.l], hon, hch⟩
set_option maxHeartbeats 4000000 in
set_option maxRecDepth 100000 in
theorem shlast_c (g : Nat) (s : ShS) (hl : s.l.length ≤ 100000) (k : Ky) (fp : List Nat) (w : World) (h : On g (ShSh s) fp w) :
    Calls Try.prog 24 #[gptr g, .string k.1, .string k.2] w (Turn g fp (.tuple #[(s.la k).x.val, (s.la k).st.val, .bool (s.laO k)]) (ShSh s) w) := by
  have z0 : 0 < 4 := by decide
  refine on_calls h 24 _ Try.func24 rfl Try.ntmps24 Try.results24 [.c (.p 0 0 0), .c (.v (.string k.1)), .c (.v (.string k.2))] (by simp) (fun ρ' h1 h2 => by simp [SV.denL, SV.den, CV.den, CV.denL, gptr, h1, h2]) (fun ρ nx hp hsh hg hb => ?_)
  obtain ⟨rfl, gl, m, es, fpl, fpc, hR, rfl⟩ := hsh
  simp (disch := omega) only [go_sem, ↓reduceIte, Nat.reduceEqDiff, Nat.reduceLT, Nat.reduceLeDiff, Nat.reduceAdd, Nat.reduceMul, Nat.reduceSub, Nat.reduceDiv, Nat.reduceMod, Int.reduceToNat, Int.reduceLT, Int.reduceLE, Int.reduceAdd, Int.reduceSub, Int.reduceMul, Int.reduceEq, Int.reduceNeg, reduceCtorEq, or_false, false_or, decide_true, decide_false, Int.cast_ofNat_Int, Nat.zero_add, Nat.add_zero, Int.toNat_natCast, Option.isNone_none, Option.isNone_some, Bool.not_true, Bool.not_false, Bool.xor_true, Bool.xor_false, Bool.true_xor, Bool.false_xor, decide_true, decide_false, Bool.and_true, Bool.true_and, Bool.and_false, Bool.false_and, eq_self, ne_eq, not_false_eq_true, not_true_eq_false, true_and, and_true, and_self, wrapI64, wrapu64, wrapu32, wrapu8, ltT, ltF, leT, leF, eqF, eqT, nltT, nleT, neqFn]
  refine of_s 0 2 3 k rfl rfl rfl (by decide) (Nat.le_of_ble_eq_true rfl) fun a g0 c b fp1 ha ht => ?_
  simp (disch := omega) only [go_sem, ↓reduceIte, Nat.reduceEqDiff, Nat.reduceLT, Nat.reduceLeDiff, Nat.reduceAdd, Nat.reduceMul, Nat.reduceSub, Nat.reduceDiv, Nat.reduceMod, Int.reduceToNat, Int.reduceLT, Int.reduceLE, Int.reduceAdd, Int.reduceSub, Int.reduceMul, Int.reduceEq, Int.reduceNeg, reduceCtorEq, or_false, false_or, decide_true, decide_false, Int.cast_ofNat_Int, Nat.zero_add, Nat.add_zero, Int.toNat_natCast, Option.isNone_none, Option.isNone_some, Bool.not_true, Bool.not_false, Bool.xor_true, Bool.xor_false, Bool.true_xor, Bool.false_xor, decide_true, decide_false, Bool.and_true, Bool.true_and, Bool.and_false, Bool.false_and, eq_self, ne_eq, not_false_eq_true, not_true_eq_false, true_and, and_true, and_self, wrapI64, wrapu64, wrapu32, wrapu8, ltT, ltF, leT, leF, eqF, eqT, nltT, nleT, neqFn]
  have hR' := hR.1.touch ht
  have hc := hR'.chn
  refine all_same_s 3 a b (k, g0, c) CR.stable [gptr g0] (.tuple #[(s.la k).val, .bool (s.laO k)]) (.tup [.agg (Ver.c (s.la k)), .c (.v (.bool (s.laO k)))]) Try.call57 (fun f1 w h => by
    have := clast_c g0 c (by rw [hc]; exact Nat.le_trans (chn_le hR.2 k) (by omega)) f1 w h
    rw [hc] at this
    subst hc
    exact this) rfl rfl (fun _ => rfl) (fun _ => rfl) rfl ?_
  simp (disch := omega) only [go_sem, ↓reduceIte, Nat.reduceEqDiff, Nat.reduceLT, Nat.reduceLeDiff, Nat.reduceAdd, Nat.reduceMul, Nat.reduceSub, Nat.reduceDiv, Nat.reduceMod, Int.reduceToNat, Int.reduceLT, Int.reduceLE, Int.reduceAdd, Int.reduceSub, Int.reduceMul, Int.reduceEq, Int.reduceNeg, reduceCtorEq, or_false, false_or, decide_true, decide_false, Int.cast_ofNat_Int, Nat.zero_add, Nat.add_zero, Int.toNat_natCast, Option.isNone_none, Option.isNone_some, Bool.not_true, Bool.not_false, Bool.xor_true, Bool.xor_false, Bool.true_xor, Bool.false_xor, decide_true, decide_false, Bool.and_true, Bool.true_and, Bool.and_false, Bool.false_and, eq_self, ne_eq, not_false_eq_true, not_true_eq_false, true_and, and_true, and_self, wrapI64, wrapu64, wrapu32, wrapu8, ltT, ltF, leT, leF, eqF, eqT, nltT, nleT, neqFn, Ver.c]
  refine sdraw [.t 0, .t 1, .t 2, .t 3, .t 4, .r 5, .r 6, .t 7] 8 [(7, _)] rfl (by kernel_rfl) ⟨rfl, trivial⟩ ?_
  simp (disch := omega) only [go_sem, ↓reduceIte, Nat.reduceEqDiff, Nat.reduceLT, Nat.reduceLeDiff, Nat.reduceAdd, Nat.reduceMul, Nat.reduceSub, Nat.reduceDiv, Nat.reduceMod, Int.reduceToNat, Int.reduceLT, Int.reduceLE, Int.reduceAdd, Int.reduceSub, Int.reduceMul, Int.reduceEq, Int.reduceNeg, reduceCtorEq, or_false, false_or, decide_true, decide_false, Int.cast_ofNat_Int, Nat.zero_add, Nat.add_zero, Int.toNat_natCast, Option.isNone_none, Option.isNone_some, Bool.not_true, Bool.not_false, Bool.xor_true, Bool.xor_false, Bool.true_xor, Bool.false_xor, decide_true, decide_false, Bool.and_true, Bool.true_and, Bool.and_false, Bool.false_and, eq_self, ne_eq, not_false_eq_true, not_true_eq_false, true_and, and_true, and_self, wrapI64, wrapu64, wrapu32, wrapu8, ltT, ltF, leT, leF, eqF, eqT, nltT, nleT, neqFn, Ver.c]
  refine fun ρ' a w' hs' hag => ?_
  obtain ⟨fp', hon, hch⟩ := sh_end s rfl rfl hs' ((congrArg Nm.blk (hag 0 z0)).trans hg) ((congrArg Nm.base (hag 0 z0)).trans hb) hR' hR.2 rfl rfl rfl rfl
  exact ⟨fp', by simp [SV.den, SV.denL, CV.den, CV.denL, Stp.val, Stp.l, Wr.val, Wr.l], hon, hch⟩
end Go.Proofs.Ytagjblkfgjcmnaa
namespace Go.Proofs.Ytagjblkfgjcmnaa
open Go.RowKit Go.Sx CW
def foldV (st : Stp) (ws : List Wr) (l : List Ver) (j : Nat) : List Ver := (ws.take j).foldl (addV st) l
theorem foldV_s {st : Stp} {ws : List Wr} {l : List Ver} {j : Nat} {x : Wr} (h : ws[j]? = some x) : foldV st ws l (j + 1) = addV st (foldV st ws l j) x := by
  obtain ⟨h1, rfl⟩ := List.getElem?_eq_some_iff.1 h
  unfold foldV
  rw [List.take_add_one, List.getElem?_eq_getElem h1, Option.toList_some, List.foldl_append]; rfl
theorem foldV_wf {st : Stp} {ws : List Wr} {l : List Ver} (h : WfL l) : ∀ j, WfL (foldV st ws l j) := fun j => by
  unfold foldV
  generalize ws.take j = m
  induction m generalizing l with
  | nil => exact h
  | cons x r ih => exact ih (h.add st x)
theorem foldV_len {st : Stp} {ws : List Wr} {l : List Ver} : ∀ j, (foldV st ws l j).length ≤ l.length + j := fun j => by
  have : ∀ (m : List Wr) (l : List Ver), (m.foldl (addV st) l).length ≤ l.length + m.length := fun m => by
    induction m with
    | nil => intro l; simp
    | cons x r ih =>
      intro l
      have := ih (addV st l x)
      have := addV_len l st x
      simp only [List.foldl_cons, List.length_cons]; omega
  have h := this (ws.take j) l
  have : (ws.take j).length ≤ j := List.length_take_le _ _
  unfold foldV; omega
abbrev stpFr (st : Stp) (n c j m4 : Nat) : List (Nat × SV) := [(20, .c (ci j)), (19, .c (ci n)), (18, .c (.s 4 0 n c)), (3, .c (.p m4 0 0)), (0, .c (.p 0 0 0))]
set_option maxHeartbeats 8000000 in
set_option maxRecDepth 100000 in
theorem shstep_c (g : Nat) (s : ShS) (hl : s.l.length ≤ 90000) (hw : ∀ x, x ∈ s.w → x.2.length ≤ 1000) (fp : List Nat) (w : World) (h : On g (ShSh s) fp w) :
    Calls Try.prog 14 #[gptr g] w (Turn g fp (.bool (!s.w.isEmpty)) (ShSh s.step) w) := by
  have z0 : 0 < 4 := by decide
  refine on_calls h 58 _ Try.func14 rfl Try.ntmps14 Try.results14 [.c (.p 0 0 0)] (by simp) (fun ρ' h1 h2 => by simp [SV.denL, SV.den, CV.den, CV.denL, gptr, h1, h2]) (fun ρ nx hp hsh hg hb => ?_)
  obtain ⟨rfl, gl, m, es, fpl, fpc, hR, rfl⟩ := hsh
  rcases hsw : s.w with _ | ⟨⟨st, ws⟩, rest⟩
  · simp (disch := omega) only [go_sem, ↓reduceIte, Nat.reduceEqDiff, Nat.reduceLT, Nat.reduceLeDiff, Nat.reduceAdd, Nat.reduceMul, Nat.reduceSub, Nat.reduceDiv, Nat.reduceMod, Int.reduceToNat, Int.reduceLT, Int.reduceLE, Int.reduceAdd, Int.reduceSub, Int.reduceMul, Int.reduceEq, Int.reduceNeg, reduceCtorEq, or_false, false_or, decide_true, decide_false, Int.cast_ofNat_Int, Nat.zero_add, Nat.add_zero, Int.toNat_natCast, Option.isNone_none, Option.isNone_some, Bool.not_true, Bool.not_false, Bool.xor_true, Bool.xor_false, Bool.true_xor, Bool.false_xor, decide_true, decide_false, Bool.and_true, Bool.true_and, Bool.and_false, Bool.false_and, eq_self, ne_eq, not_false_eq_true, not_true_eq_false, true_and, and_true, and_self, wrapI64, wrapu64, wrapu32, wrapu8, ltT, ltF, leT, leF, eqF, eqT, nltT, nleT, neqFn]
    refine ltake_s0 1 rfl rfl ?_
    simp (disch := omega) only [go_sem, ↓reduceIte, Nat.reduceEqDiff, Nat.reduceLT, Nat.reduceLeDiff, Nat.reduceAdd, Nat.reduceMul, Nat.reduceSub, Nat.reduceDiv, Nat.reduceMod, Int.reduceToNat, Int.reduceLT, Int.reduceLE, Int.reduceAdd, Int.reduceSub, Int.reduceMul, Int.reduceEq, Int.reduceNeg, reduceCtorEq, or_false, false_or, decide_true, decide_false, Int.cast_ofNat_Int, Nat.zero_add, Nat.add_zero, Int.toNat_natCast, Option.isNone_none, Option.isNone_some, Bool.not_true, Bool.not_false, Bool.xor_true, Bool.xor_false, Bool.true_xor, Bool.false_xor, decide_true, decide_false, Bool.and_true, Bool.true_and, Bool.and_false, Bool.false_and, eq_self, ne_eq, not_false_eq_true, not_true_eq_false, true_and, and_true, and_self, wrapI64, wrapu64, wrapu32, wrapu8, ltT, ltF, leT, leF, eqF, eqT, nltT, nleT, neqFn]
    refine fun ρ' a w' hs' hag => ?_
    obtain ⟨fp', hon, hch⟩ := sh_end s.step rfl rfl hs' ((congrArg Nm.blk (hag 0 z0)).trans hg) ((congrArg Nm.base (hag 0 z0)).trans hb) (es := es) (m := m) (gl := gl) (by simp [ShS.step, hsw, hR.1]) (by simp [ShS.step, hsw, hR.2]) (by simp [ShS.step, hsw]; rfl) (by simp [ShS.step, hsw]; rfl) rfl rfl
    exact ⟨fp', rfl, hon, hch⟩
  · rcases Nat.eq_zero_or_pos ws.length with h0 | hpos
    · have : ws = [] := List.length_eq_zero_iff.1 h0
      subst this
      have hst : s.step = ⟨s.room, rest, s.l, s.ap.wth st.dc (max st.n (s.ap.at st.dc))⟩ := by simp [ShS.step, hsw]
      simp (disch := omega) only [go_sem, ↓reduceIte, Nat.reduceEqDiff, Nat.reduceLT, Nat.reduceLeDiff, Nat.reduceAdd, Nat.reduceMul, Nat.reduceSub, Nat.reduceDiv, Nat.reduceMod, Int.reduceToNat, Int.reduceLT, Int.reduceLE, Int.reduceAdd, Int.reduceSub, Int.reduceMul, Int.reduceEq, Int.reduceNeg, reduceCtorEq, or_false, false_or, decide_true, decide_false, Int.cast_ofNat_Int, Nat.zero_add, Nat.add_zero, Int.toNat_natCast, Option.isNone_none, Option.isNone_some, Bool.not_true, Bool.not_false, Bool.xor_true, Bool.xor_false, Bool.true_xor, Bool.false_xor, decide_true, decide_false, Bool.and_true, Bool.true_and, Bool.and_false, Bool.false_and, eq_self, ne_eq, not_false_eq_true, not_true_eq_false, true_and, and_true, and_self, wrapI64, wrapu64, wrapu32, wrapu8, ltT, ltF, leT, leF, eqF, eqT, nltT, nleT, neqFn]
      refine ltake_s1 1 rfl rfl fun fpl' => ?_
      simp (disch := omega) only [go_sem, ↓reduceIte, Nat.reduceEqDiff, Nat.reduceLT, Nat.reduceLeDiff, Nat.reduceAdd, Nat.reduceMul, Nat.reduceSub, Nat.reduceDiv, Nat.reduceMod, Int.reduceToNat, Int.reduceLT, Int.reduceLE, Int.reduceAdd, Int.reduceSub, Int.reduceMul, Int.reduceEq, Int.reduceNeg, reduceCtorEq, or_false, false_or, decide_true, decide_false, Int.cast_ofNat_Int, Nat.zero_add, Nat.add_zero, Int.toNat_natCast, Option.isNone_none, Option.isNone_some, Bool.not_true, Bool.not_false, Bool.xor_true, Bool.xor_false, Bool.true_xor, Bool.false_xor, decide_true, decide_false, Bool.and_true, Bool.true_and, Bool.and_false, Bool.false_and, eq_self, ne_eq, not_false_eq_true, not_true_eq_false, true_and, and_true, and_self, wrapI64, wrapu64, wrapu32, wrapu8, ltT, ltF, leT, leF, eqF, eqT, nltT, nleT, neqFn]
      refine sloop_rounds 1 ?_
      simp (disch := omega) only [go_sem, ↓reduceIte, Nat.reduceEqDiff, Nat.reduceLT, Nat.reduceLeDiff, Nat.reduceAdd, Nat.reduceMul, Nat.reduceSub, Nat.reduceDiv, Nat.reduceMod, Int.reduceToNat, Int.reduceLT, Int.reduceLE, Int.reduceAdd, Int.reduceSub, Int.reduceMul, Int.reduceEq, Int.reduceNeg, reduceCtorEq, or_false, false_or, decide_true, decide_false, Int.cast_ofNat_Int, Nat.zero_add, Nat.add_zero, Int.toNat_natCast, Option.isNone_none, Option.isNone_some, Bool.not_true, Bool.not_false, Bool.xor_true, Bool.xor_false, Bool.true_xor, Bool.false_xor, decide_true, decide_false, Bool.and_true, Bool.true_and, Bool.and_false, Bool.false_and, eq_self, ne_eq, not_false_eq_true, not_true_eq_false, true_and, and_true, and_self, wrapI64, wrapu64, wrapu32, wrapu8, ltT, ltF, leT, leF, eqF, eqT, nltT, nleT, neqFn]
      refine sdraw0 [.t 0, .t 1, .t 2, .t 3, .t 4, .t 5, .t 6, .t 7, .t 8, .t 9, .t 11, .t 12, .t 13, .t 14, .t 15, .t 16, .t 17, .r 10, .r 18, .t 19, .r 20, .t 21, .t 22, .r 23] 23 rfl (by kernel_rfl) ?_
      simp (disch := omega) only [go_sem, ↓reduceIte, Nat.reduceEqDiff, Nat.reduceLT, Nat.reduceLeDiff, Nat.reduceAdd, Nat.reduceMul, Nat.reduceSub, Nat.reduceDiv, Nat.reduceMod, Int.reduceToNat, Int.reduceLT, Int.reduceLE, Int.reduceAdd, Int.reduceSub, Int.reduceMul, Int.reduceEq, Int.reduceNeg, reduceCtorEq, or_false, false_or, decide_true, decide_false, Int.cast_ofNat_Int, Nat.zero_add, Nat.add_zero, Int.toNat_natCast, Option.isNone_none, Option.isNone_some, Bool.not_true, Bool.not_false, Bool.xor_true, Bool.xor_false, Bool.true_xor, Bool.false_xor, decide_true, decide_false, Bool.and_true, Bool.true_and, Bool.and_false, Bool.false_and, eq_self, ne_eq, not_false_eq_true, not_true_eq_false, true_and, and_true, and_self, wrapI64, wrapu64, wrapu32, wrapu8, ltT, ltF, leT, leF, eqF, eqT, nltT, nleT, neqFn]
      refine n_s ?_
      simp (disch := omega) only [go_sem, ↓reduceIte, Nat.reduceEqDiff, Nat.reduceLT, Nat.reduceLeDiff, Nat.reduceAdd, Nat.reduceMul, Nat.reduceSub, Nat.reduceDiv, Nat.reduceMod, Int.reduceToNat, Int.reduceLT, Int.reduceLE, Int.reduceAdd, Int.reduceSub, Int.reduceMul, Int.reduceEq, Int.reduceNeg, reduceCtorEq, or_false, false_or, decide_true, decide_false, Int.cast_ofNat_Int, Nat.zero_add, Nat.add_zero, Int.toNat_natCast, Option.isNone_none, Option.isNone_some, Bool.not_true, Bool.not_false, Bool.xor_true, Bool.xor_false, Bool.true_xor, Bool.false_xor, decide_true, decide_false, Bool.and_true, Bool.true_and, Bool.and_false, Bool.false_and, eq_self, ne_eq, not_false_eq_true, not_true_eq_false, true_and, and_true, and_self, wrapI64, wrapu64, wrapu32, wrapu8, ltT, ltF, leT, leF, eqF, eqT, nltT, nleT, neqFn]
      refine at_s ?_
      simp (disch := omega) only [go_sem, ↓reduceIte, Nat.reduceEqDiff, Nat.reduceLT, Nat.reduceLeDiff, Nat.reduceAdd, Nat.reduceMul, Nat.reduceSub, Nat.reduceDiv, Nat.reduceMod, Int.reduceToNat, Int.reduceLT, Int.reduceLE, Int.reduceAdd, Int.reduceSub, Int.reduceMul, Int.reduceEq, Int.reduceNeg, reduceCtorEq, or_false, false_or, decide_true, decide_false, Int.cast_ofNat_Int, Nat.zero_add, Nat.add_zero, Int.toNat_natCast, Option.isNone_none, Option.isNone_some, Bool.not_true, Bool.not_false, Bool.xor_true, Bool.xor_false, Bool.true_xor, Bool.false_xor, decide_true, decide_false, Bool.and_true, Bool.true_and, Bool.and_false, Bool.false_and, eq_self, ne_eq, not_false_eq_true, not_true_eq_false, true_and, and_true, and_self, wrapI64, wrapu64, wrapu32, wrapu8, ltT, ltF, leT, leF, eqF, eqT, nltT, nleT, neqFn]
      refine with_s ?_
      simp (disch := omega) only [go_sem, ↓reduceIte, Nat.reduceEqDiff, Nat.reduceLT, Nat.reduceLeDiff, Nat.reduceAdd, Nat.reduceMul, Nat.reduceSub, Nat.reduceDiv, Nat.reduceMod, Int.reduceToNat, Int.reduceLT, Int.reduceLE, Int.reduceAdd, Int.reduceSub, Int.reduceMul, Int.reduceEq, Int.reduceNeg, reduceCtorEq, or_false, false_or, decide_true, decide_false, Int.cast_ofNat_Int, Nat.zero_add, Nat.add_zero, Int.toNat_natCast, Option.isNone_none, Option.isNone_some, Bool.not_true, Bool.not_false, Bool.xor_true, Bool.xor_false, Bool.true_xor, Bool.false_xor, decide_true, decide_false, Bool.and_true, Bool.true_and, Bool.and_false, Bool.false_and, eq_self, ne_eq, not_false_eq_true, not_true_eq_false, true_and, and_true, and_self, wrapI64, wrapu64, wrapu32, wrapu8, ltT, ltF, leT, leF, eqF, eqT, nltT, nleT, neqFn]
      refine fun ρ' a w' hs' hag => ?_
      obtain ⟨fp', hon, hch⟩ := sh_end s.step rfl rfl hs' ((congrArg Nm.blk (hag 0 z0)).trans hg) ((congrArg Nm.base (hag 0 z0)).trans hb) (es := es) (m := m) (gl := gl) (by rw [hst]; exact hR.1) (by rw [hst]; exact hR.2) (by rw [hst]; rfl) (by rw [hst]; rfl) rfl rfl
      exact ⟨fp', rfl, hon, hch⟩
    · simp (disch := omega) only [go_sem, ↓reduceIte, Nat.reduceEqDiff, Nat.reduceLT, Nat.reduceLeDiff, Nat.reduceAdd, Nat.reduceMul, Nat.reduceSub, Nat.reduceDiv, Nat.reduceMod, Int.reduceToNat, Int.reduceLT, Int.reduceLE, Int.reduceAdd, Int.reduceSub, Int.reduceMul, Int.reduceEq, Int.reduceNeg, reduceCtorEq, or_false, false_or, decide_true, decide_false, Int.cast_ofNat_Int, Nat.zero_add, Nat.add_zero, Int.toNat_natCast, Option.isNone_none, Option.isNone_some, Bool.not_true, Bool.not_false, Bool.xor_true, Bool.xor_false, Bool.true_xor, Bool.false_xor, decide_true, decide_false, Bool.and_true, Bool.true_and, Bool.and_false, Bool.false_and, eq_self, ne_eq, not_false_eq_true, not_true_eq_false, true_and, and_true, and_self, wrapI64, wrapu64, wrapu32, wrapu8, ltT, ltF, leT, leF, eqF, eqT, nltT, nleT, neqFn]
      refine ltake_s 1 hpos rfl rfl fun c fpl' hc => ?_
      simp (disch := omega) only [go_sem, ↓reduceIte, Nat.reduceEqDiff, Nat.reduceLT, Nat.reduceLeDiff, Nat.reduceAdd, Nat.reduceMul, Nat.reduceSub, Nat.reduceDiv, Nat.reduceMod, Int.reduceToNat, Int.reduceLT, Int.reduceLE, Int.reduceAdd, Int.reduceSub, Int.reduceMul, Int.reduceEq, Int.reduceNeg, reduceCtorEq, or_false, false_or, decide_true, decide_false, Int.cast_ofNat_Int, Nat.zero_add, Nat.add_zero, Int.toNat_natCast, Option.isNone_none, Option.isNone_some, Bool.not_true, Bool.not_false, Bool.xor_true, Bool.xor_false, Bool.true_xor, Bool.false_xor, decide_true, decide_false, Bool.and_true, Bool.true_and, Bool.and_false, Bool.false_and, eq_self, ne_eq, not_false_eq_true, not_true_eq_false, true_and, and_true, and_self, wrapI64, wrapu64, wrapu32, wrapu8, ltT, ltF, leT, leF, eqF, eqT, nltT, nleT, neqFn]
      have hlw : ws.length ≤ 1000 := hw (st, ws) (by rw [hsw]; simp)
      refine sloop (fun p : Nat × List Ent3 × List Nat => ⟨stpFr st ws.length c p.1 5, [(5, .cells 95 [cu st.v.a, cu st.v.b, cu st.v.c, cu st.v.d, ci st.dc, .s 4 0 ws.length c]), (4, .rows 42 4 ws.length c fun j => (wrw ws j).map .v), (0, shO gl m s.ap), (1, .pred fpl' (On gl (LnSh s.room rest) fpl')), (2, .pred [m] (MapAt kenc m (emap p.2.1))), (3, .pred p.2.2 (All CR p.2.1 p.2.2))], 6⟩) (fun p => p.1 ≤ ws.length ∧ Rel p.2.1 (foldV st ws s.l p.1)) (fun p => ws.length - p.1) (0, es, fpc)
        ⟨by omega, hR.1⟩ (ent_drop ⟨rfl, rfl, rfl, rfl, rfl, trivial⟩ ⟨rfl, rfl, rfl, rfl, rfl, rfl, trivial⟩ (by simp)) (fun p hp => ?_)
      obtain ⟨j, es1, fpc1⟩ := p
      obtain ⟨hj, hR1⟩ : j ≤ ws.length ∧ Rel es1 (foldV st ws s.l j) := hp
      dsimp only
      by_cases hjl : j < ws.length
      · obtain ⟨x, hx⟩ : ∃ x, ws[j]? = some x := ⟨_, List.getElem?_eq_getElem hjl⟩
        have hrow : (wrw ws j).map CV.v = x.c := by rw [wrw_eq hx]; rfl
        simp (disch := omega) only [go_sem, ↓reduceIte, Nat.reduceEqDiff, Nat.reduceLT, Nat.reduceLeDiff, Nat.reduceAdd, Nat.reduceMul, Nat.reduceSub, Nat.reduceDiv, Nat.reduceMod, Int.reduceToNat, Int.reduceLT, Int.reduceLE, Int.reduceAdd, Int.reduceSub, Int.reduceMul, Int.reduceEq, Int.reduceNeg, reduceCtorEq, or_false, false_or, decide_true, decide_false, Int.cast_ofNat_Int, Nat.zero_add, Nat.add_zero, Int.toNat_natCast, Option.isNone_none, Option.isNone_some, Bool.not_true, Bool.not_false, Bool.xor_true, Bool.xor_false, Bool.true_xor, Bool.false_xor, decide_true, decide_false, Bool.and_true, Bool.true_and, Bool.and_false, Bool.false_and, eq_self, ne_eq, not_false_eq_true, not_true_eq_false, true_and, and_true, and_self, wrapI64, wrapu64, wrapu32, wrapu8, ltT, ltF, leT, leF, eqF, eqT, nltT, nleT, neqFn, hrow]
        refine sdraw [.t 0, .t 1, .t 2, .t 3, .t 4, .t 6, .t 7, .t 8, .r 5, .r 9] 10 [(5, _), (6, _)] rfl (by kernel_rfl) ⟨rfl, rfl, trivial⟩ ?_
        simp (disch := omega) only [go_sem, ↓reduceIte, Nat.reduceEqDiff, Nat.reduceLT, Nat.reduceLeDiff, Nat.reduceAdd, Nat.reduceMul, Nat.reduceSub, Nat.reduceDiv, Nat.reduceMod, Int.reduceToNat, Int.reduceLT, Int.reduceLE, Int.reduceAdd, Int.reduceSub, Int.reduceMul, Int.reduceEq, Int.reduceNeg, reduceCtorEq, or_false, false_or, decide_true, decide_false, Int.cast_ofNat_Int, Nat.zero_add, Nat.add_zero, Int.toNat_natCast, Option.isNone_none, Option.isNone_some, Bool.not_true, Bool.not_false, Bool.xor_true, Bool.xor_false, Bool.true_xor, Bool.false_xor, decide_true, decide_false, Bool.and_true, Bool.true_and, Bool.and_false, Bool.false_and, eq_self, ne_eq, not_false_eq_true, not_true_eq_false, true_and, and_true, and_self, wrapI64, wrapu64, wrapu32, wrapu8, ltT, ltF, leT, leF, eqF, eqT, nltT, nleT, neqFn]
        refine of_s 0 2 3 x.kk rfl rfl rfl (by decide) (Nat.le_of_ble_eq_true rfl) fun a g0 c0 b fp1 ha ht => ?_
        simp (disch := omega) only [go_sem, ↓reduceIte, Nat.reduceEqDiff, Nat.reduceLT, Nat.reduceLeDiff, Nat.reduceAdd, Nat.reduceMul, Nat.reduceSub, Nat.reduceDiv, Nat.reduceMod, Int.reduceToNat, Int.reduceLT, Int.reduceLE, Int.reduceAdd, Int.reduceSub, Int.reduceMul, Int.reduceEq, Int.reduceNeg, reduceCtorEq, or_false, false_or, decide_true, decide_false, Int.cast_ofNat_Int, Nat.zero_add, Nat.add_zero, Int.toNat_natCast, Option.isNone_none, Option.isNone_some, Bool.not_true, Bool.not_false, Bool.xor_true, Bool.xor_false, Bool.true_xor, Bool.false_xor, decide_true, decide_false, Bool.and_true, Bool.true_and, Bool.and_false, Bool.false_and, eq_self, ne_eq, not_false_eq_true, not_true_eq_false, true_and, and_true, and_self, wrapI64, wrapu64, wrapu32, wrapu8, ltT, ltF, leT, leF, eqF, eqT, nltT, nleT, neqFn]
        have hR2 := hR1.touch ht
        have hc0 := hR2.chn
        have hwf := foldV_wf (st := st) (ws := ws) hR.2 j
        have hfl := foldV_len (st := st) (ws := ws) (l := s.l) j
        refine all_call_s (β := Unit) 3 a b (x.kk, g0, c0) (fun _ => (x.kk, g0, ins c0 st x)) CR.stable [gptr g0, st.val, x.val] (fun _ => .bool (insB c0 st)) (fun _ => .c (.v (.bool (insB c0 st)))) (fun _ => True) Try.call40 (fun f1 w h => by
          have := cadd_c g0 c0 (by rw [hc0]; exact chn_srt _ _) (by rw [hc0]; exact Nat.le_trans (chn_le hwf _) (by omega)) st x f1 w h
          exact this.mono fun e w' ⟨f1', h1, h2, h3⟩ => ⟨(), f1', ⟨trivial, h1⟩, h2, h3⟩) rfl rfl (fun _ => rfl) (fun _ _ => rfl) rfl fun _ fp2 _ => ?_
        simp (disch := omega) only [go_sem, ↓reduceIte, Nat.reduceEqDiff, Nat.reduceLT, Nat.reduceLeDiff, Nat.reduceAdd, Nat.reduceMul, Nat.reduceSub, Nat.reduceDiv, Nat.reduceMod, Int.reduceToNat, Int.reduceLT, Int.reduceLE, Int.reduceAdd, Int.reduceSub, Int.reduceMul, Int.reduceEq, Int.reduceNeg, reduceCtorEq, or_false, false_or, decide_true, decide_false, Int.cast_ofNat_Int, Nat.zero_add, Nat.add_zero, Int.toNat_natCast, Option.isNone_none, Option.isNone_some, Bool.not_true, Bool.not_false, Bool.xor_true, Bool.xor_false, Bool.true_xor, Bool.false_xor, decide_true, decide_false, Bool.and_true, Bool.true_and, Bool.and_false, Bool.false_and, eq_self, ne_eq, not_false_eq_true, not_true_eq_false, true_and, and_true, and_self, wrapI64, wrapu64, wrapu32, wrapu8, ltT, ltF, leT, leF, eqF, eqT, nltT, nleT, neqFn]
        refine ⟨(j + 1, a ++ (x.kk, g0, ins c0 st x) :: b, fp2), ⟨hjl, ?_⟩, by simp only; omega, ent_low ⟨rfl, rfl, rfl, rfl, rfl, trivial⟩ ⟨rfl, rfl, rfl, rfl, ?_, rfl, trivial⟩ (by simp) ?_ ?_ (by show (4 : Nat) ≤ 6; omega)⟩
        · rw [foldV_s hx]; exact hR2.add
        · have : emap (a ++ (x.kk, g0, ins c0 st x) :: b) = emap (a ++ (x.kk, g0, c0) :: b) := by simp [emap]
          rw [this]; rfl
        · simp [frBl, SV.bl, CV.bl]
        · simp [hpBl, Blk.bl, CV.blL, CV.bl, blL_v]
      · have hje : j = ws.length := by omega
        subst hje
        have hst : s.step = ⟨s.room, rest, foldV st ws s.l ws.length, s.ap.wth st.dc (max st.n (s.ap.at st.dc))⟩ := by simp [ShS.step, hsw, foldV]
        simp (disch := omega) only [go_sem, ↓reduceIte, Nat.reduceEqDiff, Nat.reduceLT, Nat.reduceLeDiff, Nat.reduceAdd, Nat.reduceMul, Nat.reduceSub, Nat.reduceDiv, Nat.reduceMod, Int.reduceToNat, Int.reduceLT, Int.reduceLE, Int.reduceAdd, Int.reduceSub, Int.reduceMul, Int.reduceEq, Int.reduceNeg, reduceCtorEq, or_false, false_or, decide_true, decide_false, Int.cast_ofNat_Int, Nat.zero_add, Nat.add_zero, Int.toNat_natCast, Option.isNone_none, Option.isNone_some, Bool.not_true, Bool.not_false, Bool.xor_true, Bool.xor_false, Bool.true_xor, Bool.false_xor, decide_true, decide_false, Bool.and_true, Bool.true_and, Bool.and_false, Bool.false_and, eq_self, ne_eq, not_false_eq_true, not_true_eq_false, true_and, and_true, and_self, wrapI64, wrapu64, wrapu32, wrapu8, ltT, ltF, leT, leF, eqF, eqT, nltT, nleT, neqFn]
        refine sdraw0 [.t 0, .t 1, .t 2, .t 3, .t 4, .t 5, .t 6, .t 7, .t 8, .t 9, .t 11, .t 12, .t 13, .t 14, .t 15, .t 16, .t 17, .r 10, .r 18, .t 19, .r 20, .t 21, .t 22, .r 23] 23 rfl (by kernel_rfl) ?_
        simp (disch := omega) only [go_sem, ↓reduceIte, Nat.reduceEqDiff, Nat.reduceLT, Nat.reduceLeDiff, Nat.reduceAdd, Nat.reduceMul, Nat.reduceSub, Nat.reduceDiv, Nat.reduceMod, Int.reduceToNat, Int.reduceLT, Int.reduceLE, Int.reduceAdd, Int.reduceSub, Int.reduceMul, Int.reduceEq, Int.reduceNeg, reduceCtorEq, or_false, false_or, decide_true, decide_false, Int.cast_ofNat_Int, Nat.zero_add, Nat.add_zero, Int.toNat_natCast, Option.isNone_none, Option.isNone_some, Bool.not_true, Bool.not_false, Bool.xor_true, Bool.xor_false, Bool.true_xor, Bool.false_xor, decide_true, decide_false, Bool.and_true, Bool.true_and, Bool.and_false, Bool.false_and, eq_self, ne_eq, not_false_eq_true, not_true_eq_false, true_and, and_true, and_self, wrapI64, wrapu64, wrapu32, wrapu8, ltT, ltF, leT, leF, eqF, eqT, nltT, nleT, neqFn]
        refine n_s ?_
        simp (disch := omega) only [go_sem, ↓reduceIte, Nat.reduceEqDiff, Nat.reduceLT, Nat.reduceLeDiff, Nat.reduceAdd, Nat.reduceMul, Nat.reduceSub, Nat.reduceDiv, Nat.reduceMod, Int.reduceToNat, Int.reduceLT, Int.reduceLE, Int.reduceAdd, Int.reduceSub, Int.reduceMul, Int.reduceEq, Int.reduceNeg, reduceCtorEq, or_false, false_or, decide_true, decide_false, Int.cast_ofNat_Int, Nat.zero_add, Nat.add_zero, Int.toNat_natCast, Option.isNone_none, Option.isNone_some, Bool.not_true, Bool.not_false, Bool.xor_true, Bool.xor_false, Bool.true_xor, Bool.false_xor, decide_true, decide_false, Bool.and_true, Bool.true_and, Bool.and_false, Bool.false_and, eq_self, ne_eq, not_false_eq_true, not_true_eq_false, true_and, and_true, and_self, wrapI64, wrapu64, wrapu32, wrapu8, ltT, ltF, leT, leF, eqF, eqT, nltT, nleT, neqFn]
        refine at_s ?_
        simp (disch := omega) only [go_sem, ↓reduceIte, Nat.reduceEqDiff, Nat.reduceLT, Nat.reduceLeDiff, Nat.reduceAdd, Nat.reduceMul, Nat.reduceSub, Nat.reduceDiv, Nat.reduceMod, Int.reduceToNat, Int.reduceLT, Int.reduceLE, Int.reduceAdd, Int.reduceSub, Int.reduceMul, Int.reduceEq, Int.reduceNeg, reduceCtorEq, or_false, false_or, decide_true, decide_false, Int.cast_ofNat_Int, Nat.zero_add, Nat.add_zero, Int.toNat_natCast, Option.isNone_none, Option.isNone_some, Bool.not_true, Bool.not_false, Bool.xor_true, Bool.xor_false, Bool.true_xor, Bool.false_xor, decide_true, decide_false, Bool.and_true, Bool.true_and, Bool.and_false, Bool.false_and, eq_self, ne_eq, not_false_eq_true, not_true_eq_false, true_and, and_true, and_self, wrapI64, wrapu64, wrapu32, wrapu8, ltT, ltF, leT, leF, eqF, eqT, nltT, nleT, neqFn]
        refine with_s ?_
        simp (disch := omega) only [go_sem, ↓reduceIte, Nat.reduceEqDiff, Nat.reduceLT, Nat.reduceLeDiff, Nat.reduceAdd, Nat.reduceMul, Nat.reduceSub, Nat.reduceDiv, Nat.reduceMod, Int.reduceToNat, Int.reduceLT, Int.reduceLE, Int.reduceAdd, Int.reduceSub, Int.reduceMul, Int.reduceEq, Int.reduceNeg, reduceCtorEq, or_false, false_or, decide_true, decide_false, Int.cast_ofNat_Int, Nat.zero_add, Nat.add_zero, Int.toNat_natCast, Option.isNone_none, Option.isNone_some, Bool.not_true, Bool.not_false, Bool.xor_true, Bool.xor_false, Bool.true_xor, Bool.false_xor, decide_true, decide_false, Bool.and_true, Bool.true_and, Bool.and_false, Bool.false_and, eq_self, ne_eq, not_false_eq_true, not_true_eq_false, true_and, and_true, and_self, wrapI64, wrapu64, wrapu32, wrapu8, ltT, ltF, leT, leF, eqF, eqT, nltT, nleT, neqFn]
        refine fun ρ' a w' hs' hag => ?_
        obtain ⟨fp', hon, hch⟩ := sh_end s.step rfl rfl hs' ((congrArg Nm.blk (hag 0 z0)).trans hg) ((congrArg Nm.base (hag 0 z0)).trans hb) (es := es1) (m := m) (gl := gl) (by rw [hst]; exact hR1) (by rw [hst]; exact foldV_wf hR.2 _) (by rw [hst]; rfl) (by rw [hst]; rfl) rfl rfl
        exact ⟨fp', rfl, hon, hch⟩
end Go.Proofs.Ytagjblkfgjcmnaa
namespace Go.Proofs.Ytagjblkfgjcmnaa
open Go.RowKit Go.Sx CW
theorem undone_bd {f : Nat → Int} (hf : ∀ i, 0 ≤ f i) {seen : List Nat} : ∀ {n : Nat}, 0 ≤ undone f n seen ∧ undone f n seen ≤ undone f n []
  | 0 => ⟨Int.le_refl _, Int.le_refl _⟩
  | n + 1 => by
    have ih := undone_bd hf (seen := seen) (n := n)
    have := hf n
    simp only [undone, List.not_mem_nil, if_false]
    split <;> omega
theorem undone_sum {α : Type} (f : α → Int) : ∀ l : List α, undone (fun i => ((l[i]?).map f).getD 0) l.length [] = (l.map f).sum := fun l => by
  rw [undone_none]
  congr 1
  refine List.ext_getElem? fun i => ?_
  by_cases h : i < l.length
  · simp [h]
  · simp [List.getElem?_eq_none (Nat.le_of_not_lt h)]; omega
theorem undone_le {f : Nat → Int} {i : Nat} (hf : ∀ i, 0 ≤ f i) {seen : List Nat} (hi : i ∉ seen) : ∀ {n : Nat}, i < n → f i ≤ undone f n seen
  | 0, h => by omega
  | n + 1, h => by
    have hb := undone_bd hf (seen := seen) (n := n)
    have := hf n
    by_cases e : i = n
    · subst e; simp only [undone, if_neg hi]; omega
    · have := undone_le hf hi (n := n) (by omega)
      simp only [undone]; split <;> omega
theorem emap_get {es : List Ent3} {i : Nat} {k : Ky} {v : Value} (h : (emap es)[i]? = some (k, v)) : ∃ g c, es[i]? = some (k, g, c) ∧ v = gptr g := by
  unfold emap at h
  rw [List.getElem?_map] at h
  cases hx : es[i]? with
  | none => rw [hx] at h; cases h
  | some x =>
    obtain ⟨k', g, c⟩ := x
    rw [hx] at h
    simp at h
    exact ⟨g, c, by rw [h.1], h.2.symm⟩
theorem split_at {α : Type} {l : List α} {i : Nat} {x : α} (h : l[i]? = some x) : l = l.take i ++ x :: l.drop (i + 1) := by
  obtain ⟨h1, rfl⟩ := List.getElem?_eq_some_iff.1 h
  rw [← List.drop_eq_getElem_cons h1, List.take_append_drop]
theorem emap_len (es : List Ent3) : (emap es).length = es.length := by simp [emap]
abbrev lenE (es : List Ent3) (i : Nat) : Int := ((es[i]?).map fun x => (x.2.2.length : Int)).getD 0
theorem lenE_nn (es : List Ent3) (i : Nat) : 0 ≤ lenE es i := by
  unfold lenE
  cases es[i]? <;> simp
set_option maxHeartbeats 4000000 in
set_option maxRecDepth 100000 in
theorem shvers_c (g : Nat) (s : ShS) (hl : s.l.length ≤ 100000) (fp : List Nat) (w : World) (h : On g (ShSh s) fp w) :
    Calls Try.prog 29 #[gptr g] w (TurnK g fp (.int .i64 s.l.length) (ShSh s) w) := by
  have z0 : 0 < 4 := by decide
  refine on_calls2 h 20 _ Try.func29 rfl Try.ntmps29 Try.results29 [.c (.p 0 0 0)] (by simp) (fun ρ' h1 h2 => by simp [SV.denL, SV.den, CV.den, gptr, h1, h2]) (fun ρ nx hp hsh hg hb hh => ?_)
  have hsh0 := hsh
  obtain ⟨rfl, gl, m, es, fpl, fpc, hR, rfl⟩ := hsh
  have hT : undone (lenE es) es.length [] = s.l.length := by
    rw [← hR.1.cnt hR.2]; exact undone_sum (fun x : Ent3 => (x.2.2.length : Int)) es
  simp (disch := omega) only [go_sem, ↓reduceIte, Nat.reduceEqDiff, Nat.reduceLT, Nat.reduceLeDiff, Nat.reduceAdd, Nat.reduceMul, Nat.reduceSub, Nat.reduceDiv, Nat.reduceMod, Int.reduceToNat, Int.reduceLT, Int.reduceLE, Int.reduceAdd, Int.reduceSub, Int.reduceMul, Int.reduceEq, Int.reduceNeg, reduceCtorEq, or_false, false_or, decide_true, decide_false, Int.cast_ofNat_Int, Nat.zero_add, Nat.add_zero, Int.toNat_natCast, Option.isNone_none, Option.isNone_some, Bool.not_true, Bool.not_false, Bool.xor_true, Bool.xor_false, Bool.true_xor, Bool.false_xor, decide_true, decide_false, Bool.and_true, Bool.true_and, Bool.and_false, Bool.false_and, eq_self, ne_eq, not_false_eq_true, not_true_eq_false, true_and, and_true, and_self, wrapI64, wrapu64, wrapu32, wrapu8, ltT, ltF, leT, leF, eqF, eqT, nltT, nleT, neqFn]
  refine srange 2 Try.underlying96 rfl rfl ⟨Nat.le_of_ble_eq_true rfl, fun r => ?_⟩
  simp (disch := omega) only [go_sem, ↓reduceIte, Nat.reduceEqDiff, Nat.reduceLT, Nat.reduceLeDiff, Nat.reduceAdd, Nat.reduceMul, Nat.reduceSub, Nat.reduceDiv, Nat.reduceMod, Int.reduceToNat, Int.reduceLT, Int.reduceLE, Int.reduceAdd, Int.reduceSub, Int.reduceMul, Int.reduceEq, Int.reduceNeg, reduceCtorEq, or_false, false_or, decide_true, decide_false, Int.cast_ofNat_Int, Nat.zero_add, Nat.add_zero, Int.toNat_natCast, Option.isNone_none, Option.isNone_some, Bool.not_true, Bool.not_false, Bool.xor_true, Bool.xor_false, Bool.true_xor, Bool.false_xor, decide_true, decide_false, Bool.and_true, Bool.true_and, Bool.and_false, Bool.false_and, eq_self, ne_eq, not_false_eq_true, not_true_eq_false, true_and, and_true, and_self, wrapI64, wrapu64, wrapu32, wrapu8, ltT, ltF, leT, leF, eqF, eqT, nltT, nleT, neqFn]
  refine sloop (fun seen : List Nat => ⟨[(3, .c (ci (s.l.length - undone (lenE es) es.length seen))), (10, .c (.v (gptr r)))], [(4, .pred [r] (ItAt r m (emap es).length seen)), (0, shO gl m s.ap), (1, .pred fpl (On gl (LnSh s.room s.w) fpl)), (2, .pred [m] (MapAt kenc m (emap es))), (3, .pred fpc (All CR es fpc))], 5⟩) (fun _ => True) (fun seen => (undone (fun _ => 1) es.length seen).toNat) []
    trivial (by rw [hT, Int.sub_self]; exact ent_drop ⟨rfl, rfl, trivial⟩ ⟨rfl, rfl, rfl, rfl, rfl, trivial⟩ (by simp)) (fun seen _ => ?_)
  have hb0 := undone_bd (lenE_nn es) (seen := seen) (n := es.length)
  simp (disch := omega) only [go_sem, ↓reduceIte, Nat.reduceEqDiff, Nat.reduceLT, Nat.reduceLeDiff, Nat.reduceAdd, Nat.reduceMul, Nat.reduceSub, Nat.reduceDiv, Nat.reduceMod, Int.reduceToNat, Int.reduceLT, Int.reduceLE, Int.reduceAdd, Int.reduceSub, Int.reduceMul, Int.reduceEq, Int.reduceNeg, reduceCtorEq, or_false, false_or, decide_true, decide_false, Int.cast_ofNat_Int, Nat.zero_add, Nat.add_zero, Int.toNat_natCast, Option.isNone_none, Option.isNone_some, Bool.not_true, Bool.not_false, Bool.xor_true, Bool.xor_false, Bool.true_xor, Bool.false_xor, decide_true, decide_false, Bool.and_true, Bool.true_and, Bool.and_false, Bool.false_and, eq_self, ne_eq, not_false_eq_true, not_true_eq_false, true_and, and_true, and_self, wrapI64, wrapu64, wrapu32, wrapu8, ltT, ltF, leT, leF, eqF, eqT, nltT, nleT, neqFn]
  refine snext 2 4 rfl rfl rfl (fun hall => ?_) (fun i k v hi hkv => ?_) (Nat.le_of_ble_eq_true rfl)
  · have hz := undone_all (f := lenE es) fun i hi => hall i (by rw [emap_len]; exact hi)
    rw [hz]
    simp (disch := omega) only [go_sem, ↓reduceIte, Nat.reduceEqDiff, Nat.reduceLT, Nat.reduceLeDiff, Nat.reduceAdd, Nat.reduceMul, Nat.reduceSub, Nat.reduceDiv, Nat.reduceMod, Int.reduceToNat, Int.reduceLT, Int.reduceLE, Int.reduceAdd, Int.reduceSub, Int.reduceMul, Int.reduceEq, Int.reduceNeg, reduceCtorEq, or_false, false_or, decide_true, decide_false, Int.cast_ofNat_Int, Nat.zero_add, Nat.add_zero, Int.toNat_natCast, Option.isNone_none, Option.isNone_some, Bool.not_true, Bool.not_false, Bool.xor_true, Bool.xor_false, Bool.true_xor, Bool.false_xor, decide_true, decide_false, Bool.and_true, Bool.true_and, Bool.and_false, Bool.false_and, eq_self, ne_eq, not_false_eq_true, not_true_eq_false, true_and, and_true, and_self, wrapI64, wrapu64, wrapu32, wrapu8, ltT, ltF, leT, leF, eqF, eqT, nltT, nleT, neqFn]
    refine fun ρ' a w' hs' hag => ⟨by simp [SV.den, CV.den], on_same rfl rfl (hs'.sub (hp' := [(0, shO gl m s.ap), (1, .pred fpl (On gl (LnSh s.room s.w) fpl)), (2, .pred [m] (MapAt kenc m (emap es))), (3, .pred fpc (All CR es fpc))]) ⟨rfl, rfl, rfl, rfl, trivial⟩ (by simp)) hag hh rfl hsh0 hg hb⟩
  · obtain ⟨g0, c, hes, rfl⟩ := emap_get hkv
    have hin : i < es.length := (List.getElem?_eq_some_iff.1 hes).1
    have hle : lenE es i = c.length := by simp [lenE, hes]
    have hu := undone_add (f := lenE es) hi (n := es.length)
    rw [if_pos hin, hle] at hu
    have hu2 := undone_le (lenE_nn es) hi hin
    rw [hle] at hu2
    have hsp := split_at hes
    simp (disch := omega) only [go_sem, ↓reduceIte, Nat.reduceEqDiff, Nat.reduceLT, Nat.reduceLeDiff, Nat.reduceAdd, Nat.reduceMul, Nat.reduceSub, Nat.reduceDiv, Nat.reduceMod, Int.reduceToNat, Int.reduceLT, Int.reduceLE, Int.reduceAdd, Int.reduceSub, Int.reduceMul, Int.reduceEq, Int.reduceNeg, reduceCtorEq, or_false, false_or, decide_true, decide_false, Int.cast_ofNat_Int, Nat.zero_add, Nat.add_zero, Int.toNat_natCast, Option.isNone_none, Option.isNone_some, Bool.not_true, Bool.not_false, Bool.xor_true, Bool.xor_false, Bool.true_xor, Bool.false_xor, decide_true, decide_false, Bool.and_true, Bool.true_and, Bool.and_false, Bool.false_and, eq_self, ne_eq, not_false_eq_true, not_true_eq_false, true_and, and_true, and_self, wrapI64, wrapu64, wrapu32, wrapu8, ltT, ltF, leT, leF, eqF, eqT, nltT, nleT, neqFn]
    refine sentry 2 4 rfl rfl rfl hkv ⟨Nat.le_of_ble_eq_true rfl, ?_⟩
    simp (disch := omega) only [go_sem, ↓reduceIte, Nat.reduceEqDiff, Nat.reduceLT, Nat.reduceLeDiff, Nat.reduceAdd, Nat.reduceMul, Nat.reduceSub, Nat.reduceDiv, Nat.reduceMod, Int.reduceToNat, Int.reduceLT, Int.reduceLE, Int.reduceAdd, Int.reduceSub, Int.reduceMul, Int.reduceEq, Int.reduceNeg, reduceCtorEq, or_false, false_or, decide_true, decide_false, Int.cast_ofNat_Int, Nat.zero_add, Nat.add_zero, Int.toNat_natCast, Option.isNone_none, Option.isNone_some, Bool.not_true, Bool.not_false, Bool.xor_true, Bool.xor_false, Bool.true_xor, Bool.false_xor, decide_true, decide_false, Bool.and_true, Bool.true_and, Bool.and_false, Bool.false_and, eq_self, ne_eq, not_false_eq_true, not_true_eq_false, true_and, and_true, and_self, wrapI64, wrapu64, wrapu32, wrapu8, ltT, ltF, leT, leF, eqF, eqT, nltT, nleT, neqFn]
    refine all_same_s 3 (es.take i) (es.drop (i + 1)) (k, g0, c) CR.stable [gptr g0] (.int .i64 c.length) (.c (ci c.length)) Try.call60 (fun f1 w h => clen_c g0 c f1 w h) (by rw [← hsp]; rfl) rfl (fun _ => rfl) (fun _ => rfl) rfl ?_
    simp (disch := omega) only [go_sem, ↓reduceIte, Nat.reduceEqDiff, Nat.reduceLT, Nat.reduceLeDiff, Nat.reduceAdd, Nat.reduceMul, Nat.reduceSub, Nat.reduceDiv, Nat.reduceMod, Int.reduceToNat, Int.reduceLT, Int.reduceLE, Int.reduceAdd, Int.reduceSub, Int.reduceMul, Int.reduceEq, Int.reduceNeg, reduceCtorEq, or_false, false_or, decide_true, decide_false, Int.cast_ofNat_Int, Nat.zero_add, Nat.add_zero, Int.toNat_natCast, Option.isNone_none, Option.isNone_some, Bool.not_true, Bool.not_false, Bool.xor_true, Bool.xor_false, Bool.true_xor, Bool.false_xor, decide_true, decide_false, Bool.and_true, Bool.true_and, Bool.and_false, Bool.false_and, eq_self, ne_eq, not_false_eq_true, not_true_eq_false, true_and, and_true, and_self, wrapI64, wrapu64, wrapu32, wrapu8, ltT, ltF, leT, leF, eqF, eqT, nltT, nleT, neqFn]
    refine ⟨seen ++ [i], ?_, ?_⟩
    · have h1 := left_less hi hin
      have h2 := undone_nn (seen := seen ++ [i]) (n := es.length)
      omega
    · rw [hu]
      have e : (s.l.length : Int) - (undone (lenE es) es.length seen - c.length) = s.l.length - undone (lenE es) es.length seen + c.length := by omega
      rw [e]
      exact ent_drop ⟨rfl, rfl, trivial⟩ ⟨rfl, rfl, rfl, rfl, rfl, trivial⟩ (by simp)
abbrev difE (h : V4) (es : List Ent3) (i : Nat) : Int := ((es[i]?).map fun x => (x.2.2.length : Int) - (prn x.2.2 h).length).getD 0
theorem difE_nn (h : V4) (es : List Ent3) (i : Nat) : 0 ≤ difE h es i := by
  unfold difE
  cases es[i]? with
  | none => simp
  | some x =>
    have := prn_le x.2.2 h
    simp; omega
theorem dif_sum (h : V4) (es : List Ent3) : (es.map fun x : Ent3 => (x.2.2.length : Int) - (prn x.2.2 h).length).sum = cntE es - cntE (es.map (prnE h)) := by
  unfold cntE
  induction es with
  | nil => rfl
  | cons x r ih => simp only [List.map_cons, List.sum_cons, prnE] at ih ⊢; omega
def ShS.prune (s : ShS) (h : V4) : ShS := { s with l := pruL s.l h }
set_option maxHeartbeats 4000000 in
set_option maxRecDepth 100000 in
theorem shprune_c (g : Nat) (s : ShS) (hl : s.l.length ≤ 100000) (h : V4) (fp : List Nat) (w : World) (ho : On g (ShSh s) fp w) :
    Calls Try.prog 16 #[gptr g, h.v] w (Turn g fp (.int .i64 ((s.l.length : Int) - (pruL s.l h).length)) (ShSh (s.prune h)) w) := by
  have z0 : 0 < 4 := by decide
  refine on_calls ho 23 _ Try.func16 rfl Try.ntmps16 Try.results16 [.c (.p 0 0 0), h.sv] (by simp) (fun ρ' h1 h2 => by simp [SV.denL, SV.den, CV.den, CV.denL, gptr, h1, h2]) (fun ρ nx hp hsh hg hb => ?_)
  obtain ⟨rfl, gl, m, es, fpl, fpc, hR, rfl⟩ := hsh
  have hT : undone (difE h es) es.length [] = s.l.length - (pruL s.l h).length := by
    rw [← hR.1.cnt hR.2, ← (hR.1.prune hR.2 h).cnt (hR.2.filter _), ← dif_sum]; exact undone_sum (fun x : Ent3 => (x.2.2.length : Int) - (prn x.2.2 h).length) es
  have hTb : (s.l.length : Int) - (pruL s.l h).length ≤ 100000 := by omega
  simp (disch := omega) only [go_sem, ↓reduceIte, Nat.reduceEqDiff, Nat.reduceLT, Nat.reduceLeDiff, Nat.reduceAdd, Nat.reduceMul, Nat.reduceSub, Nat.reduceDiv, Nat.reduceMod, Int.reduceToNat, Int.reduceLT, Int.reduceLE, Int.reduceAdd, Int.reduceSub, Int.reduceMul, Int.reduceEq, Int.reduceNeg, reduceCtorEq, or_false, false_or, decide_true, decide_false, Int.cast_ofNat_Int, Nat.zero_add, Nat.add_zero, Int.toNat_natCast, Option.isNone_none, Option.isNone_some, Bool.not_true, Bool.not_false, Bool.xor_true, Bool.xor_false, Bool.true_xor, Bool.false_xor, decide_true, decide_false, Bool.and_true, Bool.true_and, Bool.and_false, Bool.false_and, eq_self, ne_eq, not_false_eq_true, not_true_eq_false, true_and, and_true, and_self, wrapI64, wrapu64, wrapu32, wrapu8, ltT, ltF, leT, leF, eqF, eqT, nltT, nleT, neqFn]
  refine srange 2 Try.underlying96 rfl rfl ⟨Nat.le_of_ble_eq_true rfl, fun r => ?_⟩
  simp (disch := omega) only [go_sem, ↓reduceIte, Nat.reduceEqDiff, Nat.reduceLT, Nat.reduceLeDiff, Nat.reduceAdd, Nat.reduceMul, Nat.reduceSub, Nat.reduceDiv, Nat.reduceMod, Int.reduceToNat, Int.reduceLT, Int.reduceLE, Int.reduceAdd, Int.reduceSub, Int.reduceMul, Int.reduceEq, Int.reduceNeg, reduceCtorEq, or_false, false_or, decide_true, decide_false, Int.cast_ofNat_Int, Nat.zero_add, Nat.add_zero, Int.toNat_natCast, Option.isNone_none, Option.isNone_some, Bool.not_true, Bool.not_false, Bool.xor_true, Bool.xor_false, Bool.true_xor, Bool.false_xor, decide_true, decide_false, Bool.and_true, Bool.true_and, Bool.and_false, Bool.false_and, eq_self, ne_eq, not_false_eq_true, not_true_eq_false, true_and, and_true, and_self, wrapI64, wrapu64, wrapu32, wrapu8, ltT, ltF, leT, leF, eqF, eqT, nltT, nleT, neqFn]
  refine sloop (fun p : List Nat × List Ent3 × List Nat => ⟨[(5, .c (ci ((s.l.length : Int) - (pruL s.l h).length - undone (difE h es) es.length p.1))), (12, .c (.v (gptr r))), (3, .c (.p 4 0 0))], [(5, .pred [r] (ItAt r m (emap es).length p.1)), (4, .cells 33 [cu h.a, cu h.b, cu h.c, cu h.d]), (0, shO gl m s.ap), (1, .pred fpl (On gl (LnSh s.room s.w) fpl)), (2, .pred [m] (MapAt kenc m (emap es))), (3, .pred p.2.2 (All CR p.2.1 p.2.2))], 6⟩) (fun p => ∀ i, p.2.1[i]? = if i ∈ p.1 then (es[i]?).map (prnE h) else es[i]?) (fun p => (undone (fun _ => 1) es.length p.1).toNat) ([], es, fpc)
    (fun i => by simp) (by dsimp only; rw [hT, Int.sub_self]; exact ent_drop ⟨rfl, rfl, rfl, trivial⟩ ⟨rfl, rfl, rfl, rfl, rfl, rfl, trivial⟩ (by simp)) (fun p hp => ?_)
  obtain ⟨seen, es1, fpc1⟩ := p
  have hp : ∀ i, es1[i]? = if i ∈ seen then (es[i]?).map (prnE h) else es[i]? := hp
  dsimp only
  have hb0 := undone_bd (difE_nn h es) (seen := seen) (n := es.length)
  simp (disch := omega) only [go_sem, ↓reduceIte, Nat.reduceEqDiff, Nat.reduceLT, Nat.reduceLeDiff, Nat.reduceAdd, Nat.reduceMul, Nat.reduceSub, Nat.reduceDiv, Nat.reduceMod, Int.reduceToNat, Int.reduceLT, Int.reduceLE, Int.reduceAdd, Int.reduceSub, Int.reduceMul, Int.reduceEq, Int.reduceNeg, reduceCtorEq, or_false, false_or, decide_true, decide_false, Int.cast_ofNat_Int, Nat.zero_add, Nat.add_zero, Int.toNat_natCast, Option.isNone_none, Option.isNone_some, Bool.not_true, Bool.not_false, Bool.xor_true, Bool.xor_false, Bool.true_xor, Bool.false_xor, decide_true, decide_false, Bool.and_true, Bool.true_and, Bool.and_false, Bool.false_and, eq_self, ne_eq, not_false_eq_true, not_true_eq_false, true_and, and_true, and_self, wrapI64, wrapu64, wrapu32, wrapu8, ltT, ltF, leT, leF, eqF, eqT, nltT, nleT, neqFn]
  refine snext 2 5 rfl rfl rfl (fun hall => ?_) (fun i k v hi hkv => ?_) (Nat.le_of_ble_eq_true rfl)
  · have hall' : ∀ i, i < es.length → i ∈ seen := fun i hi => hall i (by rw [emap_len]; exact hi)
    have hz := undone_all (f := difE h es) hall'
    rw [hz]
    have hes1 : es1 = es.map (prnE h) := List.ext_getElem? fun i => by
      rw [hp i, List.getElem?_map]
      by_cases hi : i < es.length
      · rw [if_pos (hall' i hi)]
      · rw [List.getElem?_eq_none (Nat.le_of_not_lt hi)]; simp
    have hem : emap es = emap es1 := by rw [hes1]; simp [emap, prnE]
    simp (disch := omega) only [go_sem, ↓reduceIte, Nat.reduceEqDiff, Nat.reduceLT, Nat.reduceLeDiff, Nat.reduceAdd, Nat.reduceMul, Nat.reduceSub, Nat.reduceDiv, Nat.reduceMod, Int.reduceToNat, Int.reduceLT, Int.reduceLE, Int.reduceAdd, Int.reduceSub, Int.reduceMul, Int.reduceEq, Int.reduceNeg, reduceCtorEq, or_false, false_or, decide_true, decide_false, Int.cast_ofNat_Int, Nat.zero_add, Nat.add_zero, Int.toNat_natCast, Option.isNone_none, Option.isNone_some, Bool.not_true, Bool.not_false, Bool.xor_true, Bool.xor_false, Bool.true_xor, Bool.false_xor, decide_true, decide_false, Bool.and_true, Bool.true_and, Bool.and_false, Bool.false_and, eq_self, ne_eq, not_false_eq_true, not_true_eq_false, true_and, and_true, and_self, wrapI64, wrapu64, wrapu32, wrapu8, ltT, ltF, leT, leF, eqF, eqT, nltT, nleT, neqFn]
    refine fun ρ' a w' hs' hag => ?_
    obtain ⟨fp', hon, hch⟩ := sh_end (s.prune h) rfl rfl hs' ((congrArg Nm.blk (hag 0 z0)).trans hg) ((congrArg Nm.base (hag 0 z0)).trans hb) (es := es1) (m := m) (gl := gl) (by rw [hes1]; exact hR.1.prune hR.2 h) (hR.2.filter _) rfl rfl (by rw [← hem]; rfl) rfl
    exact ⟨fp', by simp [SV.den, CV.den], hon, hch⟩
  · obtain ⟨g0, c, hes, rfl⟩ := emap_get hkv
    have hin : i < es.length := (List.getElem?_eq_some_iff.1 hes).1
    have hle : difE h es i = (c.length : Int) - (prn c h).length := by simp [difE, hes]
    have hu := undone_add (f := difE h es) hi (n := es.length)
    rw [if_pos hin, hle] at hu
    have hu2 := undone_le (difE_nn h es) hi hin
    rw [hle] at hu2
    have hpl := prn_le c h
    have hes1 : es1[i]? = some (k, g0, c) := by rw [hp i, if_neg hi]; exact hes
    have hsp := split_at hes1
    have hcl : c.length ≤ 100000 := by
      have := hR.1.2.2 _ (List.mem_of_getElem? hes)
      have e : c = chn s.l k := this
      rw [e]; exact Nat.le_trans (chn_le hR.2 k) hl
    simp (disch := omega) only [go_sem, ↓reduceIte, Nat.reduceEqDiff, Nat.reduceLT, Nat.reduceLeDiff, Nat.reduceAdd, Nat.reduceMul, Nat.reduceSub, Nat.reduceDiv, Nat.reduceMod, Int.reduceToNat, Int.reduceLT, Int.reduceLE, Int.reduceAdd, Int.reduceSub, Int.reduceMul, Int.reduceEq, Int.reduceNeg, reduceCtorEq, or_false, false_or, decide_true, decide_false, Int.cast_ofNat_Int, Nat.zero_add, Nat.add_zero, Int.toNat_natCast, Option.isNone_none, Option.isNone_some, Bool.not_true, Bool.not_false, Bool.xor_true, Bool.xor_false, Bool.true_xor, Bool.false_xor, decide_true, decide_false, Bool.and_true, Bool.true_and, Bool.and_false, Bool.false_and, eq_self, ne_eq, not_false_eq_true, not_true_eq_false, true_and, and_true, and_self, wrapI64, wrapu64, wrapu32, wrapu8, ltT, ltF, leT, leF, eqF, eqT, nltT, nleT, neqFn]
    refine sentry 2 5 rfl rfl rfl hkv ⟨Nat.le_of_ble_eq_true rfl, ?_⟩
    simp (disch := omega) only [go_sem, ↓reduceIte, Nat.reduceEqDiff, Nat.reduceLT, Nat.reduceLeDiff, Nat.reduceAdd, Nat.reduceMul, Nat.reduceSub, Nat.reduceDiv, Nat.reduceMod, Int.reduceToNat, Int.reduceLT, Int.reduceLE, Int.reduceAdd, Int.reduceSub, Int.reduceMul, Int.reduceEq, Int.reduceNeg, reduceCtorEq, or_false, false_or, decide_true, decide_false, Int.cast_ofNat_Int, Nat.zero_add, Nat.add_zero, Int.toNat_natCast, Option.isNone_none, Option.isNone_some, Bool.not_true, Bool.not_false, Bool.xor_true, Bool.xor_false, Bool.true_xor, Bool.false_xor, decide_true, decide_false, Bool.and_true, Bool.true_and, Bool.and_false, Bool.false_and, eq_self, ne_eq, not_false_eq_true, not_true_eq_false, true_and, and_true, and_self, wrapI64, wrapu64, wrapu32, wrapu8, ltT, ltF, leT, leF, eqF, eqT, nltT, nleT, neqFn]
    refine all_call_s (β := Unit) 3 (es1.take i) (es1.drop (i + 1)) (k, g0, c) (fun _ => (k, g0, prn c h)) CR.stable [gptr g0, h.v] (fun _ => .int .i64 ((c.length : Int) - (prn c h).length)) (fun _ => .c (ci ((c.length : Int) - (prn c h).length))) (fun _ => True) Try.call45 (fun f1 w ho => (cprune_c g0 c hcl h f1 w ho).mono fun e w' ⟨f1', h1, h2, h3⟩ => ⟨(), f1', ⟨trivial, h1⟩, h2, h3⟩) (by rw [← hsp]; rfl) rfl (fun _ => rfl) (fun _ _ => rfl) rfl fun _ fp2 _ => ?_
    simp (disch := omega) only [go_sem, ↓reduceIte, Nat.reduceEqDiff, Nat.reduceLT, Nat.reduceLeDiff, Nat.reduceAdd, Nat.reduceMul, Nat.reduceSub, Nat.reduceDiv, Nat.reduceMod, Int.reduceToNat, Int.reduceLT, Int.reduceLE, Int.reduceAdd, Int.reduceSub, Int.reduceMul, Int.reduceEq, Int.reduceNeg, reduceCtorEq, or_false, false_or, decide_true, decide_false, Int.cast_ofNat_Int, Nat.zero_add, Nat.add_zero, Int.toNat_natCast, Option.isNone_none, Option.isNone_some, Bool.not_true, Bool.not_false, Bool.xor_true, Bool.xor_false, Bool.true_xor, Bool.false_xor, decide_true, decide_false, Bool.and_true, Bool.true_and, Bool.and_false, Bool.false_and, eq_self, ne_eq, not_false_eq_true, not_true_eq_false, true_and, and_true, and_self, wrapI64, wrapu64, wrapu32, wrapu8, ltT, ltF, leT, leF, eqF, eqT, nltT, nleT, neqFn]
    refine ⟨(seen ++ [i], es1.take i ++ (k, g0, prn c h) :: es1.drop (i + 1), fp2), fun q => ?_, ?_, ?_⟩
    · have hil : i < es1.length := (List.getElem?_eq_some_iff.1 hes1).1
      have e : es1.take i ++ (k, g0, prn c h) :: es1.drop (i + 1) = es1.set i (k, g0, prn c h) := (List.set_eq_take_append_cons_drop ..).symm ▸ by simp [hil]
      dsimp only
      rw [e]
      by_cases hq : q = i
      · subst hq
        rw [List.getElem?_set_self hil, if_pos (by simp), hes]; rfl
      · rw [List.getElem?_set_ne (Ne.symm hq), hp q]
        simp [hq]
    · have h1 := left_less hi hin
      have h2 := undone_nn (seen := seen ++ [i]) (n := es.length)
      dsimp only
      omega
    · dsimp only
      rw [hu]
      have e : (s.l.length : Int) - (pruL s.l h).length - (undone (difE h es) es.length seen - ((c.length : Int) - (prn c h).length)) = (s.l.length : Int) - (pruL s.l h).length - undone (difE h es) es.length seen + ((c.length : Int) - (prn c h).length) := by omega
      rw [e]
      exact ent_drop ⟨rfl, rfl, rfl, trivial⟩ ⟨rfl, rfl, rfl, rfl, rfl, rfl, trivial⟩ (by simp)
end Go.Proofs.Ytagjblkfgjcmnaa
namespace Go.Proofs.Ytagjblkfgjcmnaa
open Go.RowKit Go.Sx CW
abbrev Stp.sv (s : Stp) : SV := sst s.v.a s.v.b s.v.c s.v.d s.dc
section
variable {C : Cx} {fr : List (Nat × SV)} {hp : List (Nat × Blk)} {nx : Nat} {d : Option Tmp} {K : St → Prop}
theorem shnew_s {room : Int} (hr : roomOk room = true) (hd : dkB C.N d = true) (hK : ∀ g fp', kput K ⟨fr, (nx, .pred fp' (On g (ShSh (ShS.new room.toNat)) fp')) :: hp, nx + 1⟩ d (.tup [.c (.v (gptr g)), .c (ci 0)])) : SCall Try.prog C 9 [.c (ci room)] d K ⟨fr, hp, nx⟩ :=
  on_new (Sh := ShSh (ShS.new room.toNat)) [.int .i64 room] (fun g => .tuple #[gptr g, .int .i64 0]) (fun g => .tup [.c (.v (gptr g)), .c (ci 0)]) Try.call9 (fun w => (shnew_c room w).mono fun e w' h => by rw [if_pos hr] at h; exact h) rfl (fun _ => rfl) (fun _ _ => rfl) hd hK
theorem shnew_bad {room : Int} (hr : roomOk room = false) (h : dOk C.N d ∧ kput K ⟨fr, hp, nx⟩ d (.tup [.c (.v (.pointer none)), .c (ci 1)])) : SCall Try.prog C 9 [.c (ci room)] d K ⟨fr, hp, nx⟩ :=
  scall_pure [.int .i64 room] (.tup [.c (.v (.pointer none)), .c (ci 1)]) (.tuple #[.pointer none, .int .i64 1]) Try.call9 (fun w => (shnew_c room w).mono fun e w' h => by rw [hr] at h; exact h) rfl (fun _ => rfl) (fun _ => rfl) h
theorem shwait_s (n : Nat) {g : Nat} {s : ShS} {fp : List Nat} (hg : hget hp n = some (.pred fp (On g (ShSh s) fp))) (hd : dkB C.N d = true) (hK : kput K ⟨fr, hset hp n (.pred fp (On g (ShSh s) fp)), nx⟩ d (.c (ci s.w.length))) : SCall Try.prog C 26 [.c (.v (gptr g))] d K ⟨fr, hp, nx⟩ :=
  on_callk n [gptr g] (.c (ci s.w.length)) Try.call26 (fun w h => shwait_c g s fp w h) hg rfl (fun _ => rfl) (fun _ => rfl) hd hK
theorem shroom_s (n : Nat) {g : Nat} {s : ShS} {fp : List Nat} (hr : s.room ≤ 1000 ∧ s.w.length ≤ 1000) (hg : hget hp n = some (.pred fp (On g (ShSh s) fp))) (hd : dkB C.N d = true) (hK : kput K ⟨fr, hset hp n (.pred fp (On g (ShSh s) fp)), nx⟩ d (.c (ci ((s.room : Int) - s.w.length)))) : SCall Try.prog C 27 [.c (.v (gptr g))] d K ⟨fr, hp, nx⟩ :=
  on_callk n [gptr g] (.c (ci ((s.room : Int) - s.w.length))) Try.call27 (fun w h => shroom_c g s hr fp w h) hg rfl (fun _ => rfl) (fun _ => rfl) hd hK
theorem shappl_s (n : Nat) {g : Nat} {s : ShS} {fp : List Nat} (hg : hget hp n = some (.pred fp (On g (ShSh s) fp))) (hd : dkB C.N d = true) (hK : kput K ⟨fr, hset hp n (.pred fp (On g (ShSh s) fp)), nx⟩ d s.ap.sv) : SCall Try.prog C 28 [.c (.v (gptr g))] d K ⟨fr, hp, nx⟩ :=
  on_callk n [gptr g] s.ap.sv Try.call28 (fun w h => shappl_c g s fp w h) hg rfl (fun _ => rfl) (fun _ => rfl) hd hK
theorem shstep_s (n : Nat) {g : Nat} {s : ShS} {fp : List Nat} (hl : s.l.length ≤ 90000) (hw : ∀ x, x ∈ s.w → x.2.length ≤ 1000) (hg : hget hp n = some (.pred fp (On g (ShSh s) fp))) (hd : dkB C.N d = true) (hK : ∀ fp', kput K ⟨fr, hset hp n (.pred fp' (On g (ShSh s.step) fp')), nx⟩ d (.c (.v (.bool (!s.w.isEmpty))))) : SCall Try.prog C 14 [.c (.v (gptr g))] d K ⟨fr, hp, nx⟩ :=
  on_call n [gptr g] (.c (.v (.bool (!s.w.isEmpty)))) Try.call14 (fun w h => shstep_c g s hl hw fp w h) hg rfl (fun _ => rfl) (fun _ => rfl) hd hK
theorem shread_s (n : Nat) {g : Nat} {s : ShS} {fp : List Nat} (hl : s.l.length ≤ 100000) (k : Ky) (at' : V4) (hg : hget hp n = some (.pred fp (On g (ShSh s) fp))) (hd : dkB C.N d = true)
    (hK : ∀ fp', kput K ⟨fr, hset hp n (.pred fp' (On g (ShSh s) fp')), nx⟩ d (.tup [.c (.v (.string (s.rd k at').x.x)), (s.rd k at').st.sv, .c (.v (.bool (s.rdO k at' && !(s.rd k at').x.g)))])) : SCall Try.prog C 22 [.c (.v (gptr g)), .c (.v (.string k.1)), .c (.v (.string k.2)), sv4 at'.a at'.b at'.c at'.d] d K ⟨fr, hp, nx⟩ :=
  on_call n [gptr g, .string k.1, .string k.2, at'.v] (.tup [.c (.v (.string (s.rd k at').x.x)), (s.rd k at').st.sv, .c (.v (.bool (s.rdO k at' && !(s.rd k at').x.g)))]) Try.call22 (fun w h => shread_c g s hl k at' fp w h) hg rfl (fun _ => rfl) (fun _ => rfl) hd hK
theorem shlast_s (n : Nat) {g : Nat} {s : ShS} {fp : List Nat} (hl : s.l.length ≤ 100000) (k : Ky) (hg : hget hp n = some (.pred fp (On g (ShSh s) fp))) (hd : dkB C.N d = true)
    (hK : ∀ fp', kput K ⟨fr, hset hp n (.pred fp' (On g (ShSh s) fp')), nx⟩ d (.tup [.agg (s.la k).x.c, (s.la k).st.sv, .c (.v (.bool (s.laO k)))])) : SCall Try.prog C 24 [.c (.v (gptr g)), .c (.v (.string k.1)), .c (.v (.string k.2))] d K ⟨fr, hp, nx⟩ :=
  on_call n [gptr g, .string k.1, .string k.2] (.tup [.agg (s.la k).x.c, (s.la k).st.sv, .c (.v (.bool (s.laO k)))]) Try.call24 (fun w h => shlast_c g s hl k fp w h) hg rfl (fun _ => rfl) (fun _ => rfl) hd hK
theorem shprune_s (n : Nat) {g : Nat} {s : ShS} {fp : List Nat} (hl : s.l.length ≤ 100000) (h : V4) (hg : hget hp n = some (.pred fp (On g (ShSh s) fp))) (hd : dkB C.N d = true) (hK : ∀ fp', kput K ⟨fr, hset hp n (.pred fp' (On g (ShSh (s.prune h)) fp')), nx⟩ d (.c (ci ((s.l.length : Int) - (pruL s.l h).length)))) : SCall Try.prog C 16 [.c (.v (gptr g)), sv4 h.a h.b h.c h.d] d K ⟨fr, hp, nx⟩ :=
  on_call n [gptr g, h.v] (.c (ci ((s.l.length : Int) - (pruL s.l h).length))) Try.call16 (fun w ho => shprune_c g s hl h fp w ho) hg rfl (fun _ => rfl) (fun _ => rfl) hd hK
theorem shvers_s (n : Nat) {g : Nat} {s : ShS} {fp : List Nat} (hl : s.l.length ≤ 100000) (hg : hget hp n = some (.pred fp (On g (ShSh s) fp))) (hd : dkB C.N d = true) (hK : kput K ⟨fr, hset hp n (.pred fp (On g (ShSh s) fp)), nx⟩ d (.c (ci s.l.length))) : SCall Try.prog C 29 [.c (.v (gptr g))] d K ⟨fr, hp, nx⟩ :=
  on_callk n [gptr g] (.c (ci s.l.length)) Try.call29 (fun w h => shvers_c g s hl fp w h) hg rfl (fun _ => rfl) (fun _ => rfl) hd hK
theorem shpush_s (n : Nat) {g : Nat} {s : ShS} {fp : List Nat} (st : Stp) (ws : List Wr) {x : CV} (hx : WArg hp ws x) (hlen : ws.length ≤ 1000000) (hg : hget hp n = some (.pred fp (On g (ShSh s) fp))) (hd : dkB C.N d = true)
    (hK : ∀ fp', kput K ⟨fr, hset hp n (.pred fp' (On g (ShSh (s.push st ws)) fp')), nx⟩ d (.c (.v (.bool (s.pushB st ws))))) : SCall Try.prog C 18 [.c (.v (gptr g)), sst st.v.a st.v.b st.v.c st.v.d st.dc, .c x] d K ⟨fr, hp, nx⟩ := by
  have hrv : ∀ (b o c : Nat), (vs : List Value) → True := fun _ _ _ _ => trivial
  cases hx with
  | nil h =>
    subst h
    exact scall_predI (α := Unit) n fp _ (fun _ fp' => On g (ShSh (s.push st [])) fp') (k := 0) (e := 4) (rv := wrw []) (fun _ => (0, 0)) (fun b o => [gptr g, st.val, .slice none 0 0]) (fun _ => .c (.v (.bool (s.pushB st [])))) (fun _ => .bool (s.pushB st [])) (fun _ => True) Try.call18
      (fun w b o h hi hb => (shpush_c g s st [] (by simp) fp w h b o 0 hi hb).mono fun e w' ⟨fp', h1, h2, h3⟩ => ⟨(), fp', trivial, h1, h2, h3⟩) (fun _ _ => On.stable) hg rfl
      (fun ρ a w hs => ⟨⟨fun h => absurd h (by simp), fun i hi => absurd hi (by simp), fun i hi => absurd hi (by simp)⟩, fun h => absurd h (by simp)⟩) (fun ρ => rfl) (fun _ _ => rfl) ⟨dk_of hd, fun _ fp' _ => hK fp'⟩
  | rows m c k cb r h hk hr =>
    exact scall_predI (α := Unit) n fp _ (fun _ fp' => On g (ShSh (s.push st ws)) fp') (k := ws.length) (e := 4) (rv := wrw ws) (fun ρ => ((ρ m).blk, (ρ m).base + 0 * (ρ m).esz)) (fun b o => [gptr g, st.val, .slice (some ⟨b, o, none⟩) ws.length c]) (fun _ => .c (.v (.bool (s.pushB st ws)))) (fun _ => .bool (s.pushB st ws)) (fun _ => True) Try.call18
      (fun w b o h hi hb => by
        have := shpush_c g s st ws hlen fp w h b o c hi hb
        rw [show wslv ws.length b o c = .slice (some ⟨b, o, none⟩) ws.length c from if_neg (by omega)] at this
        exact this.mono fun e w' ⟨fp', h1, h2, h3⟩ => ⟨(), fp', trivial, h1, h2, h3⟩) (fun _ _ => On.stable) hg rfl
      (fun ρ a w hs => by
        obtain ⟨q1, q2, ⟨arr, q3, q4, q5⟩, q6⟩ := hs.now.hp _ _ (mem_hget h)
        have hne : n ≠ m := fun e => by rw [e, h] at hg; cases hg
        refine ⟨⟨fun _ => q3.lt, fun i hi => ?_, fun i hi u hu => ?_⟩, fun _ hm => foot_disj hs.now.nodup (mem_hget h) (mem_hget hg) (Ne.symm hne) (by simp [Blk.foot]) hm⟩
        · have := (q5 i (by omega)).1
          rw [hr i hi] at this; simpa using this
        · have := (q5 i (by omega)).2 u hu
          rw [hr i hi, ← List.getElem?_map, map_v] at this
          rw [q1, q3.cell]; simp only [Nat.zero_mul, Nat.zero_add]
          exact this) (fun ρ => rfl) (fun _ _ => rfl) ⟨dk_of hd, fun _ fp' _ => hK fp'⟩
  | imm m o c k r h hk hr =>
    exact scall_predI (α := Unit) n fp _ (fun _ fp' => On g (ShSh (s.push st ws)) fp') (k := ws.length) (e := 4) (rv := wrw ws) (fun ρ => ((ρ m).blk, (ρ m).base + o * (ρ m).esz)) (fun b o => [gptr g, st.val, .slice (some ⟨b, o, none⟩) ws.length c]) (fun _ => .c (.v (.bool (s.pushB st ws)))) (fun _ => .bool (s.pushB st ws)) (fun _ => True) Try.call18
      (fun w b o h hi hb => by
        have := shpush_c g s st ws hlen fp w h b o c hi hb
        rw [show wslv ws.length b o c = .slice (some ⟨b, o, none⟩) ws.length c from if_neg (by omega)] at this
        exact this.mono fun e w' ⟨fp', h1, h2, h3⟩ => ⟨(), fp', trivial, h1, h2, h3⟩) (fun _ _ => On.stable) hg rfl
      (fun ρ a w hs => hs.imm_imm hg h hk.2 hr) (fun ρ => rfl) (fun _ _ => rfl) ⟨dk_of hd, fun _ fp' _ => hK fp'⟩
end
end Go.Proofs.Ytagjblkfgjcmnaa
namespace Go.Proofs.Ytagjblkfgjcmnaa
open Go.RowKit Go.Sx

def hit (b k : ByteArray) (w : Wr) : Bool := decide (w.b = b) && decide (w.k = k)
def slv (s : Option (Nat × Nat)) (n : Nat) : Value := match s with | none => .slice none 0 0 | some (b, c) => .slice (some ⟨b, 0, none⟩) n c
def pwr (x : Wr) (own : Bool) (k : Nat) : Wr :=
  if own then ⟨strB [98, 48 + ((k % 2 : Nat) : Int)], strB [97 + ((k / 2 % 4 : Nat) : Int)], if decide ((224 : Int) ≤ k) then ByteArray.empty else x.x.extract 0 (min x.x.size 8), decide ((224 : Int) ≤ k)⟩ else x
set_option maxRecDepth 100000 in
theorem pwrite_c (x : Wr) (own : Bool) (k : Nat) (hk : k < 256) (w : World) :
    Calls Try.prog 13 #[.agg #[.string x.b, .string x.k, .string x.x, .bool x.g, .bool own, .int .u8 k]] w fun e w' => e = .returned (pwr x own k).val ∧ Below w.heap.size w w' := by
  refine calls_pure 39 _ Try.func13 rfl Try.ntmps13 Try.results13 [.agg [.v (.string x.b), .v (.string x.k), .v (.string x.x), .v (.bool x.g), .v (.bool own), .v (.int .u8 k)]] (by simp) (fun _ => rfl) ?_
  cases own
  · simp only [go_sem, ↓reduceIte, Nat.reduceEqDiff, Nat.reduceLT, Nat.reduceLeDiff, Nat.reduceAdd, Nat.reduceMul, Nat.reduceSub, Nat.reduceDiv, Nat.reduceMod, Int.reduceToNat, Int.reduceLT, Int.reduceLE, Int.reduceAdd, Int.reduceSub, Int.reduceMul, Int.reduceEq, Int.reduceNeg, reduceCtorEq, or_false, false_or, decide_true, decide_false, Int.cast_ofNat_Int, Nat.zero_add, Nat.add_zero, Int.toNat_natCast, Option.isNone_none, Option.isNone_some, Bool.not_true, Bool.not_false, Bool.xor_true, Bool.xor_false, Bool.true_xor, Bool.false_xor, decide_true, decide_false, Bool.and_true, Bool.true_and, Bool.and_false, Bool.false_and, eq_self, ne_eq, not_false_eq_true, not_true_eq_false, true_and, and_true, and_self]
    exact fun ρ a w hs _ => ⟨rfl, hs.grown⟩
  · have a1 : (k : Int).tmod 2 = ((k % 2 : Nat) : Int) := rfl
    have a2 : IntKind.u8.wrap (48 + ((k % 2 : Nat) : Int)) = 48 + ((k % 2 : Nat) : Int) := wrap_u8 _ (by omega) (by omega)
    have a3 : IntKind.u8.wrap ((k : Int).tdiv 2) = ((k / 2 : Nat) : Int) := by rw [show (k : Int).tdiv 2 = ((k / 2 : Nat) : Int) from rfl]; exact wrap_u8 _ (by omega) (by omega)
    have a4 : (((k / 2 : Nat) : Int)).tmod 4 = ((k / 2 % 4 : Nat) : Int) := rfl
    have a5 : IntKind.u8.wrap (97 + ((k / 2 % 4 : Nat) : Int)) = 97 + ((k / 2 % 4 : Nat) : Int) := wrap_u8 _ (by omega) (by omega)
    obtain ⟨q, hq, hq2, hq3⟩ : ∃ q : Nat, min (x.x.size : Int) 8 = (q : Int) ∧ q = min x.x.size 8 ∧ q ≤ x.x.size := ⟨min x.x.size 8, by omega, by omega, by omega⟩
    have c5 : (0 : Int) ≤ q ∧ (q : Int) ≤ x.x.size := by omega
    have c6 : (0 : Int) ≤ 0 ∧ (0 : Int) ≤ q := by omega
    simp only [go_sem, ↓reduceIte, Nat.reduceEqDiff, Nat.reduceLT, Nat.reduceLeDiff, Nat.reduceAdd, Nat.reduceMul, Nat.reduceSub, Nat.reduceDiv, Nat.reduceMod, Int.reduceToNat, Int.reduceLT, Int.reduceLE, Int.reduceAdd, Int.reduceSub, Int.reduceMul, Int.reduceEq, Int.reduceNeg, reduceCtorEq, or_false, false_or, decide_true, decide_false, Int.cast_ofNat_Int, Nat.zero_add, Nat.add_zero, Int.toNat_natCast, Option.isNone_none, Option.isNone_some, Bool.not_true, Bool.not_false, Bool.xor_true, Bool.xor_false, Bool.true_xor, Bool.false_xor, decide_true, decide_false, Bool.and_true, Bool.true_and, Bool.and_false, Bool.false_and, eq_self, ne_eq, not_false_eq_true, not_true_eq_false, true_and, and_true, and_self]
    refine sdraw_ent0 [.t 0, .t 1, .t 2, .t 3, .t 6, .t 7, .t 8, .t 9, .t 10, .t 13, .t 14, .t 15, .t 16, .t 17, .t 18, .t 19, .t 20, .t 21, .t 22, .t 23, .t 24, .d 4 [.d 5 [.c 11 [.c 12 [.t 25, .r 26, .r 27] 26 [.r 12, .t 25, .r 27]] 26 [.r 11, .r 12, .t 25, .r 27]] 11 [.d 5 [.c 12 [.t 25, .r 26, .r 27] 26 [.r 12, .t 25, .r 27]] 12 [.c 5 [.t 25, .r 26, .r 27] 26 [.r 5, .t 25, .r 27]] 26 [.c 5 [.r 12, .t 25, .r 27] 12 [.r 5, .t 25, .r 27]]] 26 [.c 5 [.r 11, .r 12, .t 25, .r 27] 11 [.c 5 [.r 12, .t 25, .r 27] 12 [.r 5, .t 25, .r 27]]]] 11 [.d 4 [.d 5 [.c 12 [.t 25, .r 26, .r 27] 26 [.r 12, .t 25, .r 27]] 12 [.c 5 [.t 25, .r 26, .r 27] 26 [.r 5, .t 25, .r 27]] 26 [.c 5 [.r 12, .t 25, .r 27] 12 [.r 5, .t 25, .r 27]]] 12 [.c 4 [.c 5 [.t 25, .r 26, .r 27] 26 [.r 5, .t 25, .r 27]] 26 [.r 4, .r 5, .t 25, .r 27]] 26 [.c 4 [.c 5 [.r 12, .t 25, .r 27] 12 [.r 5, .t 25, .r 27]] 12 [.r 4, .r 5, .t 25, .r 27]]] 26 [.c 4 [.c 5 [.r 11, .r 12, .t 25, .r 27] 11 [.c 5 [.r 12, .t 25, .r 27] 12 [.r 5, .t 25, .r 27]]] 11 [.c 4 [.c 5 [.r 12, .t 25, .r 27] 12 [.r 5, .t 25, .r 27]] 12 [.r 4, .r 5, .t 25, .r 27]]]] 27 rfl (by kernel_rfl) ⟨[(3, .c (.p 2 0 0)), (2, .c (.p 1 0 0))], [(2, .cells 42 [.v (.string (strB [98, 48 + ((k % 2 : Nat) : Int)])), .v (.string (strB [97 + ((k / 2 % 4 : Nat) : Int)])), .v (.string (x.x.extract 0 q)), .v (.bool (decide ((224 : Int) ≤ k)))]), (1, .cells 42 [.v (.string .empty), .v (.string .empty), .v (.string .empty), .v (.bool false)])], 3⟩ ?h ?h1
    · simp only [go_sem, ↓reduceIte, Nat.reduceEqDiff, Nat.reduceLT, Nat.reduceLeDiff, Nat.reduceAdd, Nat.reduceMul, Nat.reduceSub, Nat.reduceDiv, Nat.reduceMod, Int.reduceToNat, Int.reduceLT, Int.reduceLE, Int.reduceAdd, Int.reduceSub, Int.reduceMul, Int.reduceEq, Int.reduceNeg, reduceCtorEq, or_false, false_or, decide_true, decide_false, Int.cast_ofNat_Int, Nat.zero_add, Nat.add_zero, Int.toNat_natCast, Option.isNone_none, Option.isNone_some, Bool.not_true, Bool.not_false, Bool.xor_true, Bool.xor_false, Bool.true_xor, Bool.false_xor, decide_true, decide_false, Bool.and_true, Bool.true_and, Bool.and_false, Bool.false_and, eq_self, ne_eq, not_false_eq_true, not_true_eq_false, true_and, and_true, and_self, a1, a2, a3, a4, a5, hq, c5, c6]
      have E : ∀ (n : Nat) {fr : List (Nat × SV)} {hp : List (Nat × Blk)} {nx : Nat} {C : Cx}, C.n0 = 0 → n = 2 ∨ n = 3 ∨ n = 4 → lk fr 3 = .c (.p n 0 0) → lk fr 2 = .c (.p 1 0 0) → hget hp n = some (.cells 42 [.v (.string (strB [98, 48 + ((k % 2 : Nat) : Int)])), .v (.string (strB [97 + ((k / 2 % 4 : Nat) : Int)])), .v (.string (x.x.extract 0 q)), .v (.bool (decide ((224 : Int) ≤ k)))]) → hget hp 1 = some (.cells 42 [.v (.string .empty), .v (.string .empty), .v (.string .empty), .v (.bool false)]) →
          Ent C ⟨fr, hp, nx⟩ ⟨[(3, .c (.p 2 0 0)), (2, .c (.p 1 0 0))], [(2, .cells 42 [.v (.string (strB [98, 48 + ((k % 2 : Nat) : Int)])), .v (.string (strB [97 + ((k / 2 % 4 : Nat) : Int)])), .v (.string (x.x.extract 0 q)), .v (.bool (decide ((224 : Int) ≤ k)))]), (1, .cells 42 [.v (.string .empty), .v (.string .empty), .v (.string .empty), .v (.bool false)])], 3⟩ := fun n fr hp nx C h0 hn e1 e2 e3 e4 => by
        refine ent_of (fun k => if k = 2 then n else k) ⟨⟨by simp [SV.bl, CV.bl], ?_⟩, ⟨by simp [SV.bl, CV.bl], ?_⟩, trivial⟩ ⟨⟨by simp, by simp [Blk.bl, CV.blL, CV.bl], ?_⟩, ⟨by simp, by simp [Blk.bl, CV.blL, CV.bl], ?_⟩, trivial⟩ (by simp; omega) (by omega) (fun k hk => by omega)
        · rw [e1]; rfl
        · rw [e2]; rfl
        · show hget hp n = _
          rw [e3]; rfl
        · show hget hp 1 = _
          rw [e4]; rfl
      repeat' apply And.intro
      all_goals first | exact E 2 rfl (by omega) rfl rfl rfl rfl | exact E 3 rfl (by omega) rfl rfl rfl rfl | exact E 4 rfl (by omega) rfl rfl rfl rfl
    · cases hg : decide ((224 : Int) ≤ k)
      all_goals
        simp only [go_sem, ↓reduceIte, Nat.reduceEqDiff, Nat.reduceLT, Nat.reduceLeDiff, Nat.reduceAdd, Nat.reduceMul, Nat.reduceSub, Nat.reduceDiv, Nat.reduceMod, Int.reduceToNat, Int.reduceLT, Int.reduceLE, Int.reduceAdd, Int.reduceSub, Int.reduceMul, Int.reduceEq, Int.reduceNeg, reduceCtorEq, or_false, false_or, decide_true, decide_false, Int.cast_ofNat_Int, Nat.zero_add, Nat.add_zero, Int.toNat_natCast, Option.isNone_none, Option.isNone_some, Bool.not_true, Bool.not_false, Bool.xor_true, Bool.xor_false, Bool.true_xor, Bool.false_xor, decide_true, decide_false, Bool.and_true, Bool.true_and, Bool.and_false, Bool.false_and, eq_self, ne_eq, not_false_eq_true, not_true_eq_false, true_and, and_true, and_self]
        exact fun ρ a w hs _ => ⟨by simp [SV.den, CV.den, CV.denL, pwr, hg, hq2] <;> rfl, hs.grown⟩
structure Pt where
  x : Wr
  own : Bool
  k : Nat
def Pt.row (p : Pt) : List CV := [.v (.string p.x.b), .v (.string p.x.k), .v (.string p.x.x), .v (.bool p.x.g), .v (.bool p.own), .v (.int .u8 p.k)]
theorem row_put {l : List Value} (h : FOk [.s, .s, .s, .b, .b, .i .u8] l) : ∃ p : Pt, p.k < 256 ∧ l.map CV.v = p.row := by
  match l, h with
  | [_, _, _, _, _, _], ⟨⟨b, rfl, _⟩, ⟨k, rfl, _⟩, ⟨x, rfl, _⟩, ⟨g, rfl⟩, ⟨o, rfl⟩, ⟨n, rfl, hw⟩, _⟩ =>
    obtain ⟨m, rfl, hm⟩ := u8_nat hw
    exact ⟨⟨⟨b, k, x, g⟩, o, m⟩, hm, rfl⟩
def wone (whole : Bool) (p : Pt) : Wr := pwr p.x (whole || p.own) p.k
def wstep (whole : Bool) (out : List Wr) (p : Pt) : List Wr := if whole && out.any (hit (wone whole p).b (wone whole p).k) then out else out ++ [wone whole p]
def wouts (whole : Bool) (ps : Nat → Pt) : Nat → List Wr
  | 0 => []
  | n + 1 => wstep whole (wouts whole ps n) (ps n)
theorem wstep_len (whole : Bool) (out : List Wr) (p : Pt) : (wstep whole out p).length ≤ out.length + 1 := by
  unfold wstep; split <;> simp
theorem wouts_len (whole : Bool) (ps : Nat → Pt) : ∀ n, (wouts whole ps n).length ≤ n
  | 0 => by simp [wouts]
  | n + 1 => by
    have := wouts_len whole ps n
    have := wstep_len whole (wouts whole ps n) (ps n)
    simp only [wouts]; omega
def WlAt (s : Option (Nat × Nat)) (ws : List Wr) (w : World) : Prop := match s with
  | none => ws = []
  | some (b, c) => (ws.length ≤ c ∧ 0 < ws.length) ∧ RowsAt w b 42 4 ws.length c fun j => wrw ws j
def outF (ws : List Wr) : Option Nat → CV
  | none => .v (.slice none 0 0)
  | some c => .s 1 0 ws.length c
def outH (ws : List Wr) : Option Nat → List (Nat × Blk)
  | none => []
  | some c => [(1, .rows 42 4 ws.length c fun j => (wrw ws j).map .v)]
def outN : Option Nat → Nat
  | none => 1
  | some _ => 2
def outI (x0 : CV) (most : Int) (whole : Bool) (m : Nat) (r : Nat → List Value) (i : Nat) (ws : List Wr) (c : Option Nat) : St :=
  ⟨[(8, .c (.v (.int .i64 i))), (7, .c (outF ws c)), (0, .c x0), (1, .c (.v (.int .i64 most))), (2, .c (.v (.bool whole)))], outH ws c ++ [(0, .imm 6 m fun i => (r i).map .v)], outN c⟩
def outOk (ws : List Wr) : Option Nat → Prop
  | none => ws = []
  | some c => ws.length ≤ c ∧ 0 < ws.length

theorem ent_out (n : Nat) {fr : List (Nat × SV)} {hp : List (Nat × Blk)} {nx : Nat} {C : Cx} {most : Int} {whole : Bool} {m c0 i len c : Nat} {r0 : Nat → List Value} {ws : List Wr} {r : Nat → List CV} (hC : C.n0 = 1) (hn : n ≠ 0) (f8 : lk fr 8 = .c (.v (.int .i64 i))) (f7 : lk fr 7 = .c (.s n 0 len c)) (f0 : lk fr 0 = .c (.s 0 0 m c0)) (f1 : lk fr 1 = .c (.v (.int .i64 most))) (f2 : lk fr 2 = .c (.v (.bool whole)))
    (hg : hget hp n = some (.rows 42 4 len c r)) (hlen : len = ws.length) (hr : ∀ j, j < len → (wrw ws j).map .v = r j) (hi : hget hp 0 = some (.imm 6 m fun i => (r0 i).map .v)) : Ent C ⟨fr, hp, nx⟩ (outI (.s 0 0 m c0) most whole m r0 i ws (some c)) := by
  subst hlen
  refine Ent.trans (ent_rows n hg hr) ?_
  have g1 : ∀ (hp : List (Nat × Blk)) (b : Blk), hget hp n = some (.rows 42 4 ws.length c r) → hget (hset hp n b) n = some b := fun hp b h => by
    induction hp with
    | nil => simp [hget] at h
    | cons x y ih =>
      obtain ⟨q, v⟩ := x
      rw [hget_cons] at h
      rw [hset_cons]
      by_cases hq : q = n
      · rw [if_pos hq, hget_cons, if_pos hq]
      · rw [if_neg hq, hget_cons, if_neg hq]; rw [if_neg hq] at h; exact ih h
  have g2 : ∀ (hp : List (Nat × Blk)) (b : Blk), hget (hset hp n b) 0 = hget hp 0 := fun hp b => by
    induction hp with
    | nil => rfl
    | cons x y ih =>
      obtain ⟨q, v⟩ := x
      rw [hset_cons]
      by_cases hq : q = n
      · rw [if_pos hq, hget_cons, hget_cons, if_neg (by omega), if_neg (by omega)]
      · rw [if_neg hq, hget_cons, hget_cons, ih]
  refine ent_of (fun k => if k = 1 then n else k) ⟨⟨trivial, ?_⟩, ⟨?_, ?_⟩, ⟨?_, ?_⟩, ⟨trivial, ?_⟩, ⟨trivial, ?_⟩, trivial⟩ ⟨⟨?_, ?_, ?_⟩, ⟨?_, ?_, ?_⟩, trivial⟩ ?_ ?_ fun k hk => ?_
  · rw [f8]; rfl
  · show 1 < 2; omega
  · rw [f7]; rfl
  · show 0 < 2; omega
  · rw [f0]; rfl
  · rw [f1]; rfl
  · rw [f2]; rfl
  · show 1 < 2; omega
  · intro j _; exact blL_v _ _
  · show hget _ n = _
    rw [g1 hp _ hg]
    simp [Blk.rn, CV.rnL_eq, Function.comp_def, CV.rn]
  · show 0 < 2; omega
  · intro j _; exact blL_v _ _
  · show hget _ 0 = _
    rw [g2, hi]
    simp [Blk.rn, CV.rnL_eq, Function.comp_def, CV.rn]
  · simp [outH]; omega
  · rw [hC]; simp [outN]
  · rw [hC] at hk
    show (if k = 1 then n else k) = k
    rw [if_neg (by omega)]

set_option maxRecDepth 100000 in
theorem writesL_c (w : World) {b0 o0 m0 : Nat} {r0 : Nat → List Value} {x0 : CV} {v0 : Value} (i0 : ImmAt w b0 o0 6 m0 r0) (l0 : LArg2 0 m0 x0)
    (e0 : ∀ ρ : Env, ρ 0 = ⟨b0, o0, 6⟩ → x0.den ρ = v0) (ps : Nat → Pt) (f0 : ∀ i, i < m0 → (r0 i).map CV.v = (ps i).row ∧ (ps i).k < 256) (most : Nat) (hmost : most ≤ 100) (hm0 : m0 ≤ maxLen) (whole : Bool) :
    Calls Try.prog 37 #[v0, .int .i64 most, .bool whole] w fun e w' => ∃ i s, i ≤ m0 ∧ (i = m0 ∨ most ≤ (wouts whole ps i).length) ∧ (wouts whole ps i).length ≤ most ∧
      e = .returned (slv s (wouts whole ps i).length) ∧ WlAt s (wouts whole ps i) w' ∧ Below w.heap.size w w' ∧ ∀ b c, s = some (b, c) → w.heap.size ≤ b := by
  refine calls_imm [⟨b0, o0, 6, m0, r0⟩] (by simp; exact i0) 71 _ Try.func37 rfl Try.ntmps37 Try.results37 [.c x0, .c (.v (.int .i64 most)), .c (.v (.bool whole))] (by simp) (fun ρ h => by simp [SV.denL, SV.den, CV.den, e0 ρ (h 0 (by simp))]) ?_
  have n0 := l0.len
  unfold maxLen at hm0
  simp only [immL, List.length_cons, List.length_nil, Nat.zero_add, Nat.reduceAdd]
  simp only [go_sem, ↓reduceIte, Nat.reduceEqDiff, Nat.reduceLT, Nat.reduceLeDiff, Nat.reduceAdd, Nat.reduceMul, Nat.reduceSub, Nat.reduceDiv, Nat.reduceMod, Int.reduceToNat, Int.reduceLT, Int.reduceLE, Int.reduceAdd, Int.reduceSub, Int.reduceMul, Int.reduceEq, Int.reduceNeg, reduceCtorEq, or_false, false_or, decide_true, decide_false, Int.cast_ofNat_Int, Nat.zero_add, Nat.add_zero, Int.toNat_natCast, Option.isNone_none, Option.isNone_some, Bool.not_true, Bool.not_false, Bool.xor_true, Bool.xor_false, Bool.true_xor, Bool.false_xor, decide_true, decide_false, Bool.and_true, Bool.true_and, Bool.and_false, Bool.false_and, eq_self, ne_eq, not_false_eq_true, not_true_eq_false, true_and, and_true, and_self]
  refine sloop (fun p : Nat × Option Nat => outI x0 most whole m0 r0 p.1 (wouts whole ps p.1) p.2) (fun p => p.1 ≤ m0 ∧ outOk (wouts whole ps p.1) p.2 ∧ (wouts whole ps p.1).length ≤ most) (fun p => m0 - p.1) (0, none) ⟨by simp, rfl, by simp [wouts]⟩ (ent_drop ⟨rfl, rfl, rfl, rfl, rfl, trivial⟩ ⟨rfl, trivial⟩ (by simp [outH])) (fun p hp => ?_)
  obtain ⟨i, c⟩ := p
  obtain ⟨hi, hok, hle⟩ : i ≤ m0 ∧ outOk (wouts whole ps i) c ∧ (wouts whole ps i).length ≤ most := hp
  have hnext : wouts whole ps (i + 1) = wstep whole (wouts whole ps i) (ps i) := rfl
  obtain ⟨ws, hws⟩ : ∃ ws, wouts whole ps i = ws := ⟨_, rfl⟩
  rw [hws] at hok hle hnext
  show X _ _ _ _ (outI x0 most whole m0 r0 i (wouts whole ps i) c)
  rw [hws]
  have hlen : ∀ (e : TypeId) (F : SV → Prop), XLen (.slc e) (.c (outF ws c)) F = F (.c (.v (.int .i64 ws.length))) := fun e F => by
    cases c with
    | none => have h : ws = [] := hok; subst h; rfl
    | some c => rfl
  by_cases h : i < m0 ∧ ws.length < most
  · obtain ⟨h0, h1⟩ := h
    have d0 : decide ((i : Int) < m0) = true := by simp; omega
    have d1 : decide ((ws.length : Int) < most) = true := by simp; omega
    have d3 : (0 : Int) ≤ i ∧ (i : Int) < m0 := by omega
    have w1 : IntKind.i64.wrap ((i : Int) + 1) = ((i + 1 : Nat) : Int) := wrap_i64 _ (by omega) (by omega)
    obtain ⟨c0, rfl⟩ := l0.pos (by omega)
    obtain ⟨hrow0, hk⟩ := f0 i h0
    obtain ⟨W, hW⟩ : ∃ W, wone whole (ps i) = W := ⟨_, rfl⟩
    have hcall : ∀ w, Calls Try.prog 13 #[.agg #[.string (ps i).x.b, .string (ps i).x.k, .string (ps i).x.x, .bool (ps i).x.g, .bool (whole || (ps i).own), .int .u8 (ps i).k]] w fun e w' => e = .returned W.val ∧ Below w.heap.size w w' := fun w => by
      have := pwrite_c (ps i).x (whole || (ps i).own) (ps i).k hk w
      rw [show pwr (ps i).x (whole || (ps i).own) (ps i).k = W from hW] at this; exact this
    have hstep : wstep whole ws (ps i) = if whole && ws.any (hit W.b W.k) then ws else ws ++ [W] := by unfold wstep; rw [hW]
    clear hW
    cases c with
    | none =>
      have hw0 : ws = [] := hok
      subst hw0
      have d7 : decide ((0 : Int) < most) = true := by simp at h1 ⊢; omega
      have hstep : wouts whole ps (i + 1) = [W] := by rw [hnext, hstep]; simp
      simp only [outI, outF, outH, outN, List.nil_append]
      cases whole
      all_goals
        simp only [Bool.false_or, Bool.true_or] at hcall
        simp only [go_sem, ↓reduceIte, Nat.reduceEqDiff, Nat.reduceLT, Nat.reduceLeDiff, Nat.reduceAdd, Nat.reduceMul, Nat.reduceSub, Nat.reduceDiv, Nat.reduceMod, Int.reduceToNat, Int.reduceLT, Int.reduceLE, Int.reduceAdd, Int.reduceSub, Int.reduceMul, Int.reduceEq, Int.reduceNeg, reduceCtorEq, or_false, false_or, decide_true, decide_false, Int.cast_ofNat_Int, Nat.zero_add, Nat.add_zero, Int.toNat_natCast, Option.isNone_none, Option.isNone_some, Bool.not_true, Bool.not_false, Bool.xor_true, Bool.xor_false, Bool.true_xor, Bool.false_xor, decide_true, decide_false, Bool.and_true, Bool.true_and, Bool.and_false, Bool.false_and, eq_self, ne_eq, not_false_eq_true, not_true_eq_false, true_and, and_true, and_self, d0, d7, d3, hrow0, h0, n0, Pt.row]
        refine scall_pure [.agg #[.string (ps i).x.b, .string (ps i).x.k, .string (ps i).x.x, .bool (ps i).x.g, .bool _, .int .u8 (ps i).k]] (.agg [.v (.string W.b), .v (.string W.k), .v (.string W.x), .v (.bool W.g)]) W.val Try.call13 hcall rfl (fun _ => rfl) (fun _ => rfl) ?_
        simp only [go_sem, ↓reduceIte, Nat.reduceEqDiff, Nat.reduceLT, Nat.reduceLeDiff, Nat.reduceAdd, Nat.reduceMul, Nat.reduceSub, Nat.reduceDiv, Nat.reduceMod, Int.reduceToNat, Int.reduceLT, Int.reduceLE, Int.reduceAdd, Int.reduceSub, Int.reduceMul, Int.reduceEq, Int.reduceNeg, reduceCtorEq, or_false, false_or, decide_true, decide_false, Int.cast_ofNat_Int, Nat.zero_add, Nat.add_zero, Int.toNat_natCast, Option.isNone_none, Option.isNone_some, Bool.not_true, Bool.not_false, Bool.xor_true, Bool.xor_false, Bool.true_xor, Bool.false_xor, decide_true, decide_false, Bool.and_true, Bool.true_and, Bool.and_false, Bool.false_and, eq_self, ne_eq, not_false_eq_true, not_true_eq_false, true_and, and_true, and_self]
        refine sloop_rounds 1 ?_
        simp only [go_sem, ↓reduceIte, Nat.reduceEqDiff, Nat.reduceLT, Nat.reduceLeDiff, Nat.reduceAdd, Nat.reduceMul, Nat.reduceSub, Nat.reduceDiv, Nat.reduceMod, Int.reduceToNat, Int.reduceLT, Int.reduceLE, Int.reduceAdd, Int.reduceSub, Int.reduceMul, Int.reduceEq, Int.reduceNeg, reduceCtorEq, or_false, false_or, decide_true, decide_false, Int.cast_ofNat_Int, Nat.zero_add, Nat.add_zero, Int.toNat_natCast, Option.isNone_none, Option.isNone_some, Bool.not_true, Bool.not_false, Bool.xor_true, Bool.xor_false, Bool.true_xor, Bool.false_xor, decide_true, decide_false, Bool.and_true, Bool.true_and, Bool.and_false, Bool.false_and, eq_self, ne_eq, not_false_eq_true, not_true_eq_false, true_and, and_true, and_self]
        refine sappend_nil rfl rfl tkind49 tsz42 tby42 tz42 rfl ⟨⟨rfl, by decide, by decide⟩, by decide, by decide, by decide⟩ ?_
        refine ⟨(by show 69 < 71; decide), fun c' hc' => ?_⟩
        simp only [go_sem, ↓reduceIte, Nat.reduceEqDiff, Nat.reduceLT, Nat.reduceLeDiff, Nat.reduceAdd, Nat.reduceMul, Nat.reduceSub, Nat.reduceDiv, Nat.reduceMod, Int.reduceToNat, Int.reduceLT, Int.reduceLE, Int.reduceAdd, Int.reduceSub, Int.reduceMul, Int.reduceEq, Int.reduceNeg, reduceCtorEq, or_false, false_or, decide_true, decide_false, Int.cast_ofNat_Int, Nat.zero_add, Nat.add_zero, Int.toNat_natCast, Option.isNone_none, Option.isNone_some, Bool.not_true, Bool.not_false, Bool.xor_true, Bool.xor_false, Bool.true_xor, Bool.false_xor, decide_true, decide_false, Bool.and_true, Bool.true_and, Bool.and_false, Bool.false_and, eq_self, ne_eq, not_false_eq_true, not_true_eq_false, true_and, and_true, and_self, w1]
        refine ⟨(i + 1, some c'), ⟨by show i + 1 ≤ m0; omega, by show outOk (wouts _ ps (i + 1)) _; rw [hstep]; exact ⟨by simpa using hc', by simp⟩, by show (wouts _ ps (i + 1)).length ≤ most; rw [hstep]; simp at h1 ⊢; omega⟩, by show m0 - (i + 1) < m0 - i; omega, ?_⟩
        show Ent _ _ (outI _ _ _ _ _ (i + 1) (wouts _ ps (i + 1)) (some c'))
        rw [hstep]
        exact ent_out 4 rfl (by omega) rfl rfl rfl rfl rfl rfl rfl (fun j hj => by
          have : j = 0 := by omega
          subst this; rfl) rfl
    | some c =>
      obtain ⟨hc1, hc2⟩ : ws.length ≤ c ∧ 0 < ws.length := hok
      simp only [outI, outF, outH, outN, List.cons_append, List.nil_append]
      have app : ∀ (st : St) (C : Cx) (d1 d2 : Nat), True := fun _ _ _ _ => trivial
      cases whole
      all_goals
        simp only [Bool.false_or, Bool.true_or] at hcall
        simp only [go_sem, ↓reduceIte, Nat.reduceEqDiff, Nat.reduceLT, Nat.reduceLeDiff, Nat.reduceAdd, Nat.reduceMul, Nat.reduceSub, Nat.reduceDiv, Nat.reduceMod, Int.reduceToNat, Int.reduceLT, Int.reduceLE, Int.reduceAdd, Int.reduceSub, Int.reduceMul, Int.reduceEq, Int.reduceNeg, reduceCtorEq, or_false, false_or, decide_true, decide_false, Int.cast_ofNat_Int, Nat.zero_add, Nat.add_zero, Int.toNat_natCast, Option.isNone_none, Option.isNone_some, Bool.not_true, Bool.not_false, Bool.xor_true, Bool.xor_false, Bool.true_xor, Bool.false_xor, decide_true, decide_false, Bool.and_true, Bool.true_and, Bool.and_false, Bool.false_and, eq_self, ne_eq, not_false_eq_true, not_true_eq_false, true_and, and_true, and_self, d0, d1, d3, hrow0, h0, n0, Pt.row]
        refine scall_pure [.agg #[.string (ps i).x.b, .string (ps i).x.k, .string (ps i).x.x, .bool (ps i).x.g, .bool _, .int .u8 (ps i).k]] (.agg [.v (.string W.b), .v (.string W.k), .v (.string W.x), .v (.bool W.g)]) W.val Try.call13 hcall rfl (fun _ => rfl) (fun _ => rfl) ?_
        simp only [go_sem, ↓reduceIte, Nat.reduceEqDiff, Nat.reduceLT, Nat.reduceLeDiff, Nat.reduceAdd, Nat.reduceMul, Nat.reduceSub, Nat.reduceDiv, Nat.reduceMod, Int.reduceToNat, Int.reduceLT, Int.reduceLE, Int.reduceAdd, Int.reduceSub, Int.reduceMul, Int.reduceEq, Int.reduceNeg, reduceCtorEq, or_false, false_or, decide_true, decide_false, Int.cast_ofNat_Int, Nat.zero_add, Nat.add_zero, Int.toNat_natCast, Option.isNone_none, Option.isNone_some, Bool.not_true, Bool.not_false, Bool.xor_true, Bool.xor_false, Bool.true_xor, Bool.false_xor, decide_true, decide_false, Bool.and_true, Bool.true_and, Bool.and_false, Bool.false_and, eq_self, ne_eq, not_false_eq_true, not_true_eq_false, true_and, and_true, and_self]
        refine sloop (fun p : Nat × Bool => ⟨[(12, .c (.v (.int .i64 (p.1 : Nat)))), (11, .c (.v (.bool p.2))), (10, .c (.p 3 0 0)), (8, .c (.v (.int .i64 i))), (7, .c (.s 1 0 ws.length c)), (0, .c (.s 0 0 m0 c0)), (1, .c (.v (.int .i64 most))), (2, .c (.v (.bool _)))], [(3, .cells 42 [.v (.string W.b), .v (.string W.k), .v (.string W.x), .v (.bool W.g)]), (1, .rows 42 4 ws.length c fun j => (wrw ws j).map .v), (0, .imm 6 m0 fun i => (r0 i).map .v)], 4⟩)
          (fun p => p.1 ≤ ws.length ∧ p.2 = (ws.take p.1).any (hit W.b W.k)) (fun p => ws.length - p.1) (0, false) ⟨by simp, by simp⟩ (ent_drop ⟨rfl, rfl, rfl, rfl, rfl, rfl, rfl, rfl, trivial⟩ ⟨rfl, rfl, rfl, trivial⟩ (by simp)) (fun p hp => ?_)
        obtain ⟨k, tw⟩ := p
        obtain ⟨hk1, htw⟩ : k ≤ ws.length ∧ tw = (ws.take k).any (hit W.b W.k) := hp
        by_cases hkl : k < ws.length
        · have d4 : decide ((k : Int) < ws.length) = true := by simp; omega
          have d5 : (0 : Int) ≤ k ∧ (k : Int) < ws.length := by omega
          have w2 : IntKind.i64.wrap ((k : Int) + 1) = ((k + 1 : Nat) : Int) := wrap_i64 _ (by omega) (by omega)
          obtain ⟨x, hx⟩ : ∃ x, ws[k]? = some x := ⟨_, List.getElem?_eq_getElem hkl⟩
          have hr2 : (wrw ws k).map CV.v = x.c := by rw [wrw_eq hx]; rfl
          have htk : (ws.take (k + 1)).any (hit W.b W.k) = (tw || hit W.b W.k x) := by rw [List.take_add_one, hx, htw]; simp
          simp only [go_sem, ↓reduceIte, Nat.reduceEqDiff, Nat.reduceLT, Nat.reduceLeDiff, Nat.reduceAdd, Nat.reduceMul, Nat.reduceSub, Nat.reduceDiv, Nat.reduceMod, Int.reduceToNat, Int.reduceLT, Int.reduceLE, Int.reduceAdd, Int.reduceSub, Int.reduceMul, Int.reduceEq, Int.reduceNeg, reduceCtorEq, or_false, false_or, decide_true, decide_false, Int.cast_ofNat_Int, Nat.zero_add, Nat.add_zero, Int.toNat_natCast, Option.isNone_none, Option.isNone_some, Bool.not_true, Bool.not_false, Bool.xor_true, Bool.xor_false, Bool.true_xor, Bool.false_xor, decide_true, decide_false, Bool.and_true, Bool.true_and, Bool.and_false, Bool.false_and, eq_self, ne_eq, not_false_eq_true, not_true_eq_false, true_and, and_true, and_self, d4]
          refine sdraw0 [.t 0, .t 1, .t 2, .t 3, .t 4, .t 5, .t 6, .t 7, .t 8, .t 9, .t 10, .t 11, .t 12, .t 13, .t 14, .t 15, .t 16, .t 17, .t 18, .t 19, .t 20, .t 21] 22 rfl (by kernel_rfl) ?_
          cases tw
          · cases e1 : decide (x.b = W.b)
            · simp only [go_sem, ↓reduceIte, Nat.reduceEqDiff, Nat.reduceLT, Nat.reduceLeDiff, Nat.reduceAdd, Nat.reduceMul, Nat.reduceSub, Nat.reduceDiv, Nat.reduceMod, Int.reduceToNat, Int.reduceLT, Int.reduceLE, Int.reduceAdd, Int.reduceSub, Int.reduceMul, Int.reduceEq, Int.reduceNeg, reduceCtorEq, or_false, false_or, decide_true, decide_false, Int.cast_ofNat_Int, Nat.zero_add, Nat.add_zero, Int.toNat_natCast, Option.isNone_none, Option.isNone_some, Bool.not_true, Bool.not_false, Bool.xor_true, Bool.xor_false, Bool.true_xor, Bool.false_xor, decide_true, decide_false, Bool.and_true, Bool.true_and, Bool.and_false, Bool.false_and, eq_self, ne_eq, not_false_eq_true, not_true_eq_false, true_and, and_true, and_self, d5, hkl, hr2, e1, w2]
              exact ⟨(k + 1, false), ⟨by show k + 1 ≤ ws.length; omega, by rw [htk]; simp [hit, e1]⟩, by show ws.length - (k + 1) < ws.length - k; omega, ent_drop ⟨rfl, rfl, rfl, rfl, rfl, rfl, rfl, rfl, trivial⟩ ⟨rfl, rfl, rfl, trivial⟩ (by simp)⟩
            · cases e2 : decide (x.k = W.k)
              · simp only [go_sem, ↓reduceIte, Nat.reduceEqDiff, Nat.reduceLT, Nat.reduceLeDiff, Nat.reduceAdd, Nat.reduceMul, Nat.reduceSub, Nat.reduceDiv, Nat.reduceMod, Int.reduceToNat, Int.reduceLT, Int.reduceLE, Int.reduceAdd, Int.reduceSub, Int.reduceMul, Int.reduceEq, Int.reduceNeg, reduceCtorEq, or_false, false_or, decide_true, decide_false, Int.cast_ofNat_Int, Nat.zero_add, Nat.add_zero, Int.toNat_natCast, Option.isNone_none, Option.isNone_some, Bool.not_true, Bool.not_false, Bool.xor_true, Bool.xor_false, Bool.true_xor, Bool.false_xor, decide_true, decide_false, Bool.and_true, Bool.true_and, Bool.and_false, Bool.false_and, eq_self, ne_eq, not_false_eq_true, not_true_eq_false, true_and, and_true, and_self, d5, hkl, hr2, e1, e2, w2]
                exact ⟨(k + 1, false), ⟨by show k + 1 ≤ ws.length; omega, by rw [htk]; simp [hit, e1, e2]⟩, by show ws.length - (k + 1) < ws.length - k; omega, ent_drop ⟨rfl, rfl, rfl, rfl, rfl, rfl, rfl, rfl, trivial⟩ ⟨rfl, rfl, rfl, trivial⟩ (by simp)⟩
              · simp only [go_sem, ↓reduceIte, Nat.reduceEqDiff, Nat.reduceLT, Nat.reduceLeDiff, Nat.reduceAdd, Nat.reduceMul, Nat.reduceSub, Nat.reduceDiv, Nat.reduceMod, Int.reduceToNat, Int.reduceLT, Int.reduceLE, Int.reduceAdd, Int.reduceSub, Int.reduceMul, Int.reduceEq, Int.reduceNeg, reduceCtorEq, or_false, false_or, decide_true, decide_false, Int.cast_ofNat_Int, Nat.zero_add, Nat.add_zero, Int.toNat_natCast, Option.isNone_none, Option.isNone_some, Bool.not_true, Bool.not_false, Bool.xor_true, Bool.xor_false, Bool.true_xor, Bool.false_xor, decide_true, decide_false, Bool.and_true, Bool.true_and, Bool.and_false, Bool.false_and, eq_self, ne_eq, not_false_eq_true, not_true_eq_false, true_and, and_true, and_self, d5, hkl, hr2, e1, e2, w2]
                exact ⟨(k + 1, true), ⟨by show k + 1 ≤ ws.length; omega, by rw [htk]; simp [hit, e1, e2]⟩, by show ws.length - (k + 1) < ws.length - k; omega, ent_drop ⟨rfl, rfl, rfl, rfl, rfl, rfl, rfl, rfl, trivial⟩ ⟨rfl, rfl, rfl, trivial⟩ (by simp)⟩
          · simp only [go_sem, ↓reduceIte, Nat.reduceEqDiff, Nat.reduceLT, Nat.reduceLeDiff, Nat.reduceAdd, Nat.reduceMul, Nat.reduceSub, Nat.reduceDiv, Nat.reduceMod, Int.reduceToNat, Int.reduceLT, Int.reduceLE, Int.reduceAdd, Int.reduceSub, Int.reduceMul, Int.reduceEq, Int.reduceNeg, reduceCtorEq, or_false, false_or, decide_true, decide_false, Int.cast_ofNat_Int, Nat.zero_add, Nat.add_zero, Int.toNat_natCast, Option.isNone_none, Option.isNone_some, Bool.not_true, Bool.not_false, Bool.xor_true, Bool.xor_false, Bool.true_xor, Bool.false_xor, decide_true, decide_false, Bool.and_true, Bool.true_and, Bool.and_false, Bool.false_and, eq_self, ne_eq, not_false_eq_true, not_true_eq_false, true_and, and_true, and_self, d5, hkl, hr2, w2]
            exact ⟨(k + 1, true), ⟨by show k + 1 ≤ ws.length; omega, by rw [htk]; simp⟩, by show ws.length - (k + 1) < ws.length - k; omega, ent_drop ⟨rfl, rfl, rfl, rfl, rfl, rfl, rfl, rfl, trivial⟩ ⟨rfl, rfl, rfl, trivial⟩ (by simp)⟩
        · obtain rfl : k = ws.length := by omega
          have d4 : decide ((ws.length : Int) < ws.length) = false := by simp
          rw [List.take_length] at htw
          rw [← htw] at hstep
          cases tw
          all_goals
            have hstep : wouts _ ps (i + 1) = _ := hnext.trans hstep
            simp only [Bool.false_and, Bool.true_and, Bool.and_false, Bool.and_true, if_true, if_false, Bool.false_eq_true] at hstep
            simp only [go_sem, ↓reduceIte, Nat.reduceEqDiff, Nat.reduceLT, Nat.reduceLeDiff, Nat.reduceAdd, Nat.reduceMul, Nat.reduceSub, Nat.reduceDiv, Nat.reduceMod, Int.reduceToNat, Int.reduceLT, Int.reduceLE, Int.reduceAdd, Int.reduceSub, Int.reduceMul, Int.reduceEq, Int.reduceNeg, reduceCtorEq, or_false, false_or, decide_true, decide_false, Int.cast_ofNat_Int, Nat.zero_add, Nat.add_zero, Int.toNat_natCast, Option.isNone_none, Option.isNone_some, Bool.not_true, Bool.not_false, Bool.xor_true, Bool.xor_false, Bool.true_xor, Bool.false_xor, decide_true, decide_false, Bool.and_true, Bool.true_and, Bool.and_false, Bool.false_and, eq_self, ne_eq, not_false_eq_true, not_true_eq_false, true_and, and_true, and_self, d4]
            first
              | (refine sappend rfl rfl tkind49 tsz42 tby42 tz42 rfl rfl ⟨⟨rfl, by decide, by decide, Nat.le_refl _⟩, by decide, by omega, by omega⟩ (fun i hi => by
                   have : i = 0 := by omega
                   subst this; rfl) ?_
                 refine ⟨(by show 69 < 71; decide), fun c' hc' => ?_⟩
                 simp only [go_sem, ↓reduceIte, Nat.reduceEqDiff, Nat.reduceLT, Nat.reduceLeDiff, Nat.reduceAdd, Nat.reduceMul, Nat.reduceSub, Nat.reduceDiv, Nat.reduceMod, Int.reduceToNat, Int.reduceLT, Int.reduceLE, Int.reduceAdd, Int.reduceSub, Int.reduceMul, Int.reduceEq, Int.reduceNeg, reduceCtorEq, or_false, false_or, decide_true, decide_false, Int.cast_ofNat_Int, Nat.zero_add, Nat.add_zero, Int.toNat_natCast, Option.isNone_none, Option.isNone_some, Bool.not_true, Bool.not_false, Bool.xor_true, Bool.xor_false, Bool.true_xor, Bool.false_xor, decide_true, decide_false, Bool.and_true, Bool.true_and, Bool.and_false, Bool.false_and, eq_self, ne_eq, not_false_eq_true, not_true_eq_false, true_and, and_true, and_self, w1]
                 refine ⟨(i + 1, some c'), ⟨by show i + 1 ≤ m0; omega, by show outOk (wouts _ ps (i + 1)) _; rw [hstep]; exact ⟨by simp; omega, by simp⟩, by show (wouts _ ps (i + 1)).length ≤ most; rw [hstep]; simp; omega⟩, by show m0 - (i + 1) < m0 - i; omega, ?_⟩
                 show Ent _ _ (outI _ _ _ _ _ (i + 1) (wouts _ ps (i + 1)) (some c'))
                 rw [hstep]
                 refine ent_out 5 rfl (by omega) rfl rfl rfl rfl rfl rfl (by simp) (fun j hj => ?_) rfl
                 by_cases hjl : j < ws.length
                 · simp only [rapp, hjl, if_true, wrw, List.getElem?_append_left hjl]
                 · have hjl2 : j = ws.length := by omega
                   subst hjl2
                   simp [rapp, wrw, rowsOf, Wr.l])
              | (simp only [go_sem, ↓reduceIte, Nat.reduceEqDiff, Nat.reduceLT, Nat.reduceLeDiff, Nat.reduceAdd, Nat.reduceMul, Nat.reduceSub, Nat.reduceDiv, Nat.reduceMod, Int.reduceToNat, Int.reduceLT, Int.reduceLE, Int.reduceAdd, Int.reduceSub, Int.reduceMul, Int.reduceEq, Int.reduceNeg, reduceCtorEq, or_false, false_or, decide_true, decide_false, Int.cast_ofNat_Int, Nat.zero_add, Nat.add_zero, Int.toNat_natCast, Option.isNone_none, Option.isNone_some, Bool.not_true, Bool.not_false, Bool.xor_true, Bool.xor_false, Bool.true_xor, Bool.false_xor, decide_true, decide_false, Bool.and_true, Bool.true_and, Bool.and_false, Bool.false_and, eq_self, ne_eq, not_false_eq_true, not_true_eq_false, true_and, and_true, and_self, w1]
                 refine ⟨(i + 1, some c), ⟨by show i + 1 ≤ m0; omega, by show outOk (wouts _ ps (i + 1)) _; rw [hstep]; exact ⟨hc1, hc2⟩, by show (wouts _ ps (i + 1)).length ≤ most; rw [hstep]; omega⟩, by show m0 - (i + 1) < m0 - i; omega, ?_⟩
                 show Ent _ _ (outI _ _ _ _ _ (i + 1) (wouts _ ps (i + 1)) (some c))
                 rw [hstep]
                 exact ent_out 1 rfl (by omega) rfl rfl rfl rfl rfl rfl rfl (fun j hj => rfl) rfl)
  · obtain ⟨c0, c2, d0, d2⟩ : ∃ c0 c2, decide ((i : Int) < m0) = c0 ∧ decide ((ws.length : Int) < most) = c2 := ⟨_, _, rfl, rfl⟩
    have hc : (c0 && c2) = false := by
      rw [← d0, ← d2]; simp; omega
    have hend : i = m0 ∨ most ≤ ws.length := by omega
    cases c with
    | none =>
      have hw0 : ws = [] := hok
      subst hw0
      simp only [List.length_nil, Int.natCast_zero, Int.ofNat_zero] at d2
      simp only [outI, outF, outH, outN, List.nil_append]
      cases c0 <;> cases c2 <;> first | cases hc | skip
      all_goals
        simp only [go_sem, ↓reduceIte, Nat.reduceEqDiff, Nat.reduceLT, Nat.reduceLeDiff, Nat.reduceAdd, Nat.reduceMul, Nat.reduceSub, Nat.reduceDiv, Nat.reduceMod, Int.reduceToNat, Int.reduceLT, Int.reduceLE, Int.reduceAdd, Int.reduceSub, Int.reduceMul, Int.reduceEq, Int.reduceNeg, reduceCtorEq, or_false, false_or, decide_true, decide_false, Int.cast_ofNat_Int, Nat.zero_add, Nat.add_zero, Int.toNat_natCast, Option.isNone_none, Option.isNone_some, Bool.not_true, Bool.not_false, Bool.xor_true, Bool.xor_false, Bool.true_xor, Bool.false_xor, decide_true, decide_false, Bool.and_true, Bool.true_and, Bool.and_false, Bool.false_and, eq_self, ne_eq, not_false_eq_true, not_true_eq_false, true_and, and_true, and_self, d0, d2, n0]
        exact fun ρ a w' hs _ => ⟨i, none, hi, by rw [hws]; exact hend, by rw [hws]; exact hle, by simp [SV.den, CV.den, slv], by rw [hws]; rfl, hs.grown, fun b c h => by cases h⟩
    | some c =>
      obtain ⟨hc1, hc2⟩ : ws.length ≤ c ∧ 0 < ws.length := hok
      simp only [outI, outF, outH, outN, List.cons_append, List.nil_append]
      cases c0 <;> cases c2 <;> first | cases hc | skip
      all_goals
        simp only [go_sem, ↓reduceIte, Nat.reduceEqDiff, Nat.reduceLT, Nat.reduceLeDiff, Nat.reduceAdd, Nat.reduceMul, Nat.reduceSub, Nat.reduceDiv, Nat.reduceMod, Int.reduceToNat, Int.reduceLT, Int.reduceLE, Int.reduceAdd, Int.reduceSub, Int.reduceMul, Int.reduceEq, Int.reduceNeg, reduceCtorEq, or_false, false_or, decide_true, decide_false, Int.cast_ofNat_Int, Nat.zero_add, Nat.add_zero, Int.toNat_natCast, Option.isNone_none, Option.isNone_some, Bool.not_true, Bool.not_false, Bool.xor_true, Bool.xor_false, Bool.true_xor, Bool.false_xor, decide_true, decide_false, Bool.and_true, Bool.true_and, Bool.and_false, Bool.false_and, eq_self, ne_eq, not_false_eq_true, not_true_eq_false, true_and, and_true, and_self, d0, d2, n0]
        refine fun ρ a w' hs _ => ⟨i, some ((ρ 1).blk, c), hi, by rw [hws]; exact hend, by rw [hws]; exact hle, ?_, ?_, hs.grown, fun b c h => ?_⟩
        · rw [hws]; simp [SV.den, CV.den, slv, (hs.now.hp _ _ (mem_hget (n := 1) rfl)).1]
        · rw [hws]; exact ⟨⟨hc1, hc2⟩, rowsAt_of (hs.now.hp _ _ (mem_hget (n := 1) rfl)) rfl fun j _ => map_v _ _⟩
        · injection h with h; injection h with h _
          have := (hs.now.hp _ _ (mem_hget (n := 1) rfl)).2.2.2
          rw [← h]
          exact this.elim id fun h => h.elim
theorem writes_list {C : Cx} {fr : List (Nat × SV)} {hp : List (Nat × Blk)} {nx m0 : Nat} {r0 : Nat → List Value} {x0 : CV} {d : Option Tmp} {K : St → Prop} (q : Nat) (hg : hget hp q = some (.imm 6 m0 fun i => (r0 i).map .v)) (l0 : LArg2 q m0 x0) (ps : Nat → Pt) (f0 : ∀ i, i < m0 → (r0 i).map CV.v = (ps i).row ∧ (ps i).k < 256) (most : Nat) (hmost : most ≤ 100) (hm0 : m0 ≤ maxLen) (whole : Bool) (hd : dkB C.N d = true)
    (hK : ∀ i, i ≤ m0 → (i = m0 ∨ most ≤ (wouts whole ps i).length) → (wouts whole ps i).length ≤ most →
      (wouts whole ps i = [] → kput K ⟨fr, hp, nx⟩ d (.c (.v (.slice none 0 0)))) ∧
      ∀ c, (wouts whole ps i).length ≤ c ∧ 0 < (wouts whole ps i).length → kput K ⟨fr, (nx, .rows 42 4 (wouts whole ps i).length c fun j => (wrw (wouts whole ps i) j).map .v) :: hp, nx + 1⟩ d (.c (.s nx 0 (wouts whole ps i).length c))) :
    SCall Try.prog C 37 [.c x0, .c (.v (.int .i64 most)), .c (.v (.bool whole))] d K ⟨fr, hp, nx⟩ := by
  refine ⟨by simp only [SV.okL, l0.ok]; rfl, fun ρ w a hs _ => .inl ⟨fun v w => Try.call37 _ w, ?_⟩⟩
  obtain ⟨g1, g2, g3⟩ := hs.now.hp _ _ (mem_hget hg)
  have him : ImmAt w (ρ q).blk (ρ q).base 6 m0 r0 := by
    refine ⟨fun h => Nat.lt_of_lt_of_le (g3 h).1 hs.now.keeps.size, fun i hi => by simpa using (g2 i hi).1, fun i hi u hu => ?_⟩
    rw [(g2 i hi).2 u hu, ← List.getElem?_map, map_v]
  have l0' : ∃ y0, LArg2 0 m0 y0 ∧ ∀ ρ' : Env, ρ' 0 = ⟨(ρ q).blk, (ρ q).base, 6⟩ → y0.den ρ' = x0.den ρ := by
    rcases l0 with ⟨a, c, rfl, rfl⟩ | ⟨cap, rfl⟩
    · exact ⟨_, .inl ⟨a, c, rfl, rfl⟩, fun _ _ => rfl⟩
    · exact ⟨.s 0 0 m0 cap, .inr ⟨cap, rfl⟩, fun ρ' h => by simp [CV.den, h]⟩
  obtain ⟨y0, l0', e0⟩ := l0'
  refine (writesL_c w him l0' e0 ps f0 most hmost hm0 whole).mono fun e w' ⟨i, s, h1, h2, h3, he, hw, hb, hf⟩ => ⟨_, he, ?_⟩
  obtain ⟨k0, k1⟩ := hK i h1 h2 h3
  have hs' := hs.below hb
  rcases s with _ | ⟨b, c⟩
  · have hws : wouts whole ps i = [] := hw
    refine ⟨_, ρ, k0 hws, hs'.put (dk_of hd) fun _ ρ' _ => ?_, by cases d <;> simp [St.put], fun _ _ => rfl⟩
    rw [hws]; simp [slv, SV.den, CV.den]
  · have hlt := hf b c rfl
    have h1 := hs'.add (.rows 42 4 (wouts whole ps i).length c fun j => (wrw (wouts whole ps i) j).map .v) ⟨b, 0, 4⟩ [b] (fun ρ' hρ hn => hw.2.holds hn (.inl (Nat.le_trans hs.now.keeps.size hlt)) fun i _ => map_v _ _)
      (fun ρ' hn => by simp [Blk.foot, hn]) (fun k hk hm => by
        have := (hs.now.foot_lt hm).1
        simp at hk; omega) (by simp)
    refine ⟨_, _, k1 c hw.1, h1.put (dk_of hd) fun _ ρ' hρ' => ?_, by cases d <;> simp [St.put], fun k hk => by simp [envSet, Nat.ne_of_lt hk]⟩
    have := hρ' nx (by simp)
    simp [envSet] at this
    simp [slv, SV.den, CV.den, this]
end Go.Proofs.Ytagjblkfgjcmnaa
namespace Go.Proofs.Ytagjblkfgjcmnaa
open Go.RowKit Go.Sx
def dfl : Wr := ⟨⟨#[98, 48]⟩, ⟨#[97]⟩, ⟨#[118]⟩, false⟩
def wkey (x : Wr) : ByteArray × ByteArray := (x.b, x.k)
structure DealP (own : Bool) (ws : List Wr) : Prop where
  len : ws.length ≤ 10
  whole : own = true → (0 < ws.length ∧ ws.length ≤ 8) ∧ (∀ x, x ∈ ws → x.right = true) ∧ (ws.map wkey).Nodup
theorem strB_size (l : List Int) : (strB l).size = l.length := by simp [strB, ByteArray.size]
theorem nmd_of {s : ByteArray} (h0 : 0 < s.size) (h1 : s.size ≤ 16) : nmd s = true := by
  have : s ≠ ⟨#[]⟩ := fun e => by rw [e] at h0; exact absurd h0 (by decide)
  unfold nmd
  simp [this]; omega
theorem extract_le (s : ByteArray) : (s.extract 0 (min s.size 8)).size ≤ 8 := by simp; omega
theorem pwr_right (x : Wr) (k : Nat) : (pwr x true k).right = true := by
  have h1 : nmd (strB [98, 48 + ((k % 2 : Nat) : Int)]) = true := nmd_of (by rw [strB_size]; simp) (by rw [strB_size]; simp)
  have h2 : nmd (strB [97 + ((k / 2 % 4 : Nat) : Int)]) = true := nmd_of (by rw [strB_size]; simp) (by rw [strB_size]; simp)
  have h3 := extract_le x.x
  unfold pwr
  rw [if_pos rfl]
  unfold Wr.right
  dsimp only
  rw [h1, h2]
  by_cases hg : (224 : Int) ≤ (k : Int)
  · rw [decide_eq_true hg]
    simp only [if_true]
    decide
  · rw [decide_eq_false hg]
    generalize x.x.extract 0 (min x.x.size 8) = y at h3
    simp; omega
theorem wouts_right (ps : Nat → Pt) : ∀ i x, x ∈ wouts true ps i → x.right = true
  | 0, x, h => by simp [wouts] at h
  | i + 1, x, h => by
    simp only [wouts, wstep] at h
    split at h
    · exact wouts_right ps i x h
    · rcases List.mem_append.1 h with h | h
      · exact wouts_right ps i x h
      · have : x = wone true (ps i) := by simpa using h
        rw [this]; exact pwr_right _ _
theorem wouts_nodup (ps : Nat → Pt) : ∀ i, ((wouts true ps i).map wkey).Nodup
  | 0 => by simp [wouts]
  | i + 1 => by
    simp only [wouts, wstep, Bool.true_and]
    split
    · exact wouts_nodup ps i
    · next h =>
      rw [List.map_append, List.nodup_append]
      refine ⟨wouts_nodup ps i, by simp, fun a ha b hb he => h ?_⟩
      obtain ⟨y, hy, rfl⟩ := List.mem_map.1 ha
      have hb : b = wkey (wone true (ps i)) := by simpa using hb
      rw [List.any_eq_true]
      refine ⟨y, hy, ?_⟩
      rw [hb] at he
      simp only [wkey, Prod.mk.injEq] at he
      simp [hit, he.1, he.2]
theorem dfl_right : dfl.right = true := by decide
theorem dealP_f {ps : Nat → Pt} {i : Nat} (h : (wouts false ps i).length ≤ 10) : DealP false (wouts false ps i) := ⟨h, fun h => by cases h⟩
theorem dealP_t {ps : Nat → Pt} {i : Nat} (h : (wouts true ps i).length ≤ 8) (h0 : 0 < (wouts true ps i).length) : DealP true (wouts true ps i) := ⟨by omega, fun _ => ⟨⟨h0, h⟩, wouts_right ps i, wouts_nodup ps i⟩⟩
theorem dealP_d : DealP true [dfl] := ⟨by simp, fun _ => ⟨by simp, fun x hx => by rw [List.mem_singleton.1 hx]; exact dfl_right, by simp⟩⟩
abbrev putK : List FK := [.s, .s, .s, .b, .b, .i .u8]
set_option maxHeartbeats 4000000 in
set_option maxRecDepth 100000 in
theorem deal_c (w : World) (m : Stp) (mo own : Bool) (s : SlD) (hs : s.ok w putK) :
    Calls Try.prog 11 #[.agg #[vu m.v.a, vu m.v.b, vu m.v.c, vu m.v.d, .int .i64 m.dc, .bool mo, s.val, .bool own]] w fun e w' => ∃ ws t, DealP own ws ∧
      e = .returned (.agg #[vu (mk m (own || mo)).v.a, vu (mk m (own || mo)).v.b, vu (mk m (own || mo)).v.c, vu (mk m (own || mo)).v.d, .int .i64 (mk m (own || mo)).dc, slv t ws.length]) ∧ WlAt t ws w' ∧ Below w.heap.size w w' ∧ ∀ b c, t = some (b, c) → w.heap.size ≤ b := by
  obtain ⟨h1, h2, h3, h4⟩ := hs
  obtain ⟨x0, l0, e0⟩ : ∃ x0, LArg2 0 s.len x0 ∧ ∀ ρ : Env, ρ 0 = ⟨s.b, s.off, 6⟩ → x0.den ρ = s.val := by
    rcases Nat.eq_zero_or_pos s.len with h0 | h0
    · exact ⟨.v s.val, .inl ⟨s.a, s.cap, by simp [SlD.val, h0], h0⟩, fun _ _ => rfl⟩
    · exact ⟨.s 0 0 s.len s.cap, .inr ⟨s.cap, rfl⟩, fun ρ h => by simp [CV.den, h, SlD.val, h2 h0]⟩
  have hone : one1 x0 = true := by rcases l0 with ⟨a, c, rfl, _⟩ | ⟨c, rfl⟩ <;> rfl
  have f0 : ∃ ps : Nat → Pt, ∀ i, i < s.len → (s.r i).map CV.v = (ps i).row ∧ (ps i).k < 256 := by
    refine ⟨fun i => if h : i < s.len then (row_put (h4 i h)).choose else ⟨dfl, false, 0⟩, fun i hi => ?_⟩
    have := (row_put (h4 i hi)).choose_spec
    simp only [hi, dite_true]
    exact ⟨this.2, this.1⟩
  obtain ⟨ps, f0⟩ := f0
  have hmark := fun own' w => mark_c m own' w
  refine calls_imm [⟨s.b, s.off, 6, s.len, s.r⟩] (by simp; exact h3) 31 _ Try.func11 rfl Try.ntmps11 Try.results11 [.agg [cu m.v.a, cu m.v.b, cu m.v.c, cu m.v.d, ci m.dc, .v (.bool mo), x0, .v (.bool own)]] (by simp) (fun ρ h => by simp [SV.denL, SV.den, CV.den, CV.denL, e0 ρ (h 0 (by simp))]) ?_
  simp only [immL, List.length_cons, List.length_nil, Nat.zero_add, Nat.reduceAdd]
  cases own
  · simp (disch := omega) only [go_sem, ↓reduceIte, Nat.reduceEqDiff, Nat.reduceLT, Nat.reduceLeDiff, Nat.reduceAdd, Nat.reduceMul, Nat.reduceSub, Nat.reduceDiv, Nat.reduceMod, Int.reduceToNat, Int.reduceLT, Int.reduceLE, Int.reduceAdd, Int.reduceSub, Int.reduceMul, Int.reduceEq, Int.reduceNeg, reduceCtorEq, or_false, false_or, decide_true, decide_false, Int.cast_ofNat_Int, Nat.zero_add, Nat.add_zero, Int.toNat_natCast, Option.isNone_none, Option.isNone_some, Bool.not_true, Bool.not_false, Bool.xor_true, Bool.xor_false, Bool.true_xor, Bool.false_xor, decide_true, decide_false, Bool.and_true, Bool.true_and, Bool.and_false, Bool.false_and, eq_self, ne_eq, not_false_eq_true, not_true_eq_false, true_and, and_true, and_self, wrapI64, wrapu64, wrapu32, wrapu8, ltT, ltF, leT, leF, eqF, eqT, nltT, nleT, neqFn]
    refine sdraw0 [.t 0, .t 1, .t 3, .t 4, .r 2, .r 5, .t 6, .r 7] 7 rfl (by kernel_rfl) ?_
    simp (disch := omega) only [go_sem, ↓reduceIte, Nat.reduceEqDiff, Nat.reduceLT, Nat.reduceLeDiff, Nat.reduceAdd, Nat.reduceMul, Nat.reduceSub, Nat.reduceDiv, Nat.reduceMod, Int.reduceToNat, Int.reduceLT, Int.reduceLE, Int.reduceAdd, Int.reduceSub, Int.reduceMul, Int.reduceEq, Int.reduceNeg, reduceCtorEq, or_false, false_or, decide_true, decide_false, Int.cast_ofNat_Int, Nat.zero_add, Nat.add_zero, Int.toNat_natCast, Option.isNone_none, Option.isNone_some, Bool.not_true, Bool.not_false, Bool.xor_true, Bool.xor_false, Bool.true_xor, Bool.false_xor, decide_true, decide_false, Bool.and_true, Bool.true_and, Bool.and_false, Bool.false_and, eq_self, ne_eq, not_false_eq_true, not_true_eq_false, true_and, and_true, and_self, wrapI64, wrapu64, wrapu32, wrapu8, ltT, ltF, leT, leF, eqF, eqT, nltT, nleT, neqFn]
    refine scall_pure [.agg #[vu m.v.a, vu m.v.b, vu m.v.c, vu m.v.d, .int .i64 m.dc, .bool mo]] (sst (mk m mo).v.a (mk m mo).v.b (mk m mo).v.c (mk m mo).v.d (mk m mo).dc) (mk m mo).val Try.call36 (hmark mo) rfl (fun _ => rfl) (fun _ => rfl) ?_
    simp (disch := omega) only [go_sem, ↓reduceIte, Nat.reduceEqDiff, Nat.reduceLT, Nat.reduceLeDiff, Nat.reduceAdd, Nat.reduceMul, Nat.reduceSub, Nat.reduceDiv, Nat.reduceMod, Int.reduceToNat, Int.reduceLT, Int.reduceLE, Int.reduceAdd, Int.reduceSub, Int.reduceMul, Int.reduceEq, Int.reduceNeg, reduceCtorEq, or_false, false_or, decide_true, decide_false, Int.cast_ofNat_Int, Nat.zero_add, Nat.add_zero, Int.toNat_natCast, Option.isNone_none, Option.isNone_some, Bool.not_true, Bool.not_false, Bool.xor_true, Bool.xor_false, Bool.true_xor, Bool.false_xor, decide_true, decide_false, Bool.and_true, Bool.true_and, Bool.and_false, Bool.false_and, eq_self, ne_eq, not_false_eq_true, not_true_eq_false, true_and, and_true, and_self, wrapI64, wrapu64, wrapu32, wrapu8, ltT, ltF, leT, leF, eqF, eqT, nltT, nleT, neqFn]
    refine writes_list 0 rfl l0 ps f0 10 (by decide) h1 false rfl fun i hi hend hle => ⟨fun hnil => ?_, fun c hc => ?_⟩
    · simp (disch := omega) only [go_sem, ↓reduceIte, Nat.reduceEqDiff, Nat.reduceLT, Nat.reduceLeDiff, Nat.reduceAdd, Nat.reduceMul, Nat.reduceSub, Nat.reduceDiv, Nat.reduceMod, Int.reduceToNat, Int.reduceLT, Int.reduceLE, Int.reduceAdd, Int.reduceSub, Int.reduceMul, Int.reduceEq, Int.reduceNeg, reduceCtorEq, or_false, false_or, decide_true, decide_false, Int.cast_ofNat_Int, Nat.zero_add, Nat.add_zero, Int.toNat_natCast, Option.isNone_none, Option.isNone_some, Bool.not_true, Bool.not_false, Bool.xor_true, Bool.xor_false, Bool.true_xor, Bool.false_xor, decide_true, decide_false, Bool.and_true, Bool.true_and, Bool.and_false, Bool.false_and, eq_self, ne_eq, not_false_eq_true, not_true_eq_false, true_and, and_true, and_self, wrapI64, wrapu64, wrapu32, wrapu8, ltT, ltF, leT, leF, eqF, eqT, nltT, nleT, neqFn]
      exact fun ρ a w' hs _ => ⟨[], none, ⟨by simp, fun h => by cases h⟩, by simp [SV.den, CV.den, CV.denL, slv], rfl, hs.grown, fun b c h => by cases h⟩
    · simp (disch := omega) only [go_sem, ↓reduceIte, Nat.reduceEqDiff, Nat.reduceLT, Nat.reduceLeDiff, Nat.reduceAdd, Nat.reduceMul, Nat.reduceSub, Nat.reduceDiv, Nat.reduceMod, Int.reduceToNat, Int.reduceLT, Int.reduceLE, Int.reduceAdd, Int.reduceSub, Int.reduceMul, Int.reduceEq, Int.reduceNeg, reduceCtorEq, or_false, false_or, decide_true, decide_false, Int.cast_ofNat_Int, Nat.zero_add, Nat.add_zero, Int.toNat_natCast, Option.isNone_none, Option.isNone_some, Bool.not_true, Bool.not_false, Bool.xor_true, Bool.xor_false, Bool.true_xor, Bool.false_xor, decide_true, decide_false, Bool.and_true, Bool.true_and, Bool.and_false, Bool.false_and, eq_self, ne_eq, not_false_eq_true, not_true_eq_false, true_and, and_true, and_self, wrapI64, wrapu64, wrapu32, wrapu8, ltT, ltF, leT, leF, eqF, eqT, nltT, nleT, neqFn]
      exact fun ρ a w' hs _ => ⟨wouts false ps i, some ((ρ 3).blk, c), dealP_f hle, by simp [SV.den, CV.den, CV.denL, slv, (hs.now.hp _ _ (mem_hget (n := 3) rfl)).1], ⟨hc, rowsAt_of (hs.now.hp _ _ (mem_hget (n := 3) rfl)) rfl fun j _ => map_v _ _⟩, hs.grown, fun b c h => by
        injection h with h; injection h with h _
        rw [← h]
        exact (hs.now.hp _ _ (mem_hget (n := 3) rfl)).2.2.2.elim id fun h => h.elim⟩
  · simp (disch := omega) only [go_sem, ↓reduceIte, Nat.reduceEqDiff, Nat.reduceLT, Nat.reduceLeDiff, Nat.reduceAdd, Nat.reduceMul, Nat.reduceSub, Nat.reduceDiv, Nat.reduceMod, Int.reduceToNat, Int.reduceLT, Int.reduceLE, Int.reduceAdd, Int.reduceSub, Int.reduceMul, Int.reduceEq, Int.reduceNeg, reduceCtorEq, or_false, false_or, decide_true, decide_false, Int.cast_ofNat_Int, Nat.zero_add, Nat.add_zero, Int.toNat_natCast, Option.isNone_none, Option.isNone_some, Bool.not_true, Bool.not_false, Bool.xor_true, Bool.xor_false, Bool.true_xor, Bool.false_xor, decide_true, decide_false, Bool.and_true, Bool.true_and, Bool.and_false, Bool.false_and, eq_self, ne_eq, not_false_eq_true, not_true_eq_false, true_and, and_true, and_self, wrapI64, wrapu64, wrapu32, wrapu8, ltT, ltF, leT, leF, eqF, eqT, nltT, nleT, neqFn]
    refine sdraw [.t 0, .t 1, .t 3, .t 4, .c 2 [.c 5 [.t 6, .r 7, .r 8] 7 [.r 5, .t 6, .r 8]] 7 [.r 2, .r 5, .t 6, .r 8]] 9 [(0, _), (1, _)] rfl (by kernel_rfl) ⟨rfl, rfl, trivial⟩ ?_
    simp (disch := omega) only [go_sem, ↓reduceIte, Nat.reduceEqDiff, Nat.reduceLT, Nat.reduceLeDiff, Nat.reduceAdd, Nat.reduceMul, Nat.reduceSub, Nat.reduceDiv, Nat.reduceMod, Int.reduceToNat, Int.reduceLT, Int.reduceLE, Int.reduceAdd, Int.reduceSub, Int.reduceMul, Int.reduceEq, Int.reduceNeg, reduceCtorEq, or_false, false_or, decide_true, decide_false, Int.cast_ofNat_Int, Nat.zero_add, Nat.add_zero, Int.toNat_natCast, Option.isNone_none, Option.isNone_some, Bool.not_true, Bool.not_false, Bool.xor_true, Bool.xor_false, Bool.true_xor, Bool.false_xor, decide_true, decide_false, Bool.and_true, Bool.true_and, Bool.and_false, Bool.false_and, eq_self, ne_eq, not_false_eq_true, not_true_eq_false, true_and, and_true, and_self, wrapI64, wrapu64, wrapu32, wrapu8, ltT, ltF, leT, leF, eqF, eqT, nltT, nleT, neqFn]
    refine ⟨?_, ?_⟩
    · refine scall_pure [.agg #[vu m.v.a, vu m.v.b, vu m.v.c, vu m.v.d, .int .i64 m.dc, .bool true]] (sst (mk m true).v.a (mk m true).v.b (mk m true).v.c (mk m true).v.d (mk m true).dc) (mk m true).val Try.call36 (hmark true) rfl (fun _ => rfl) (fun _ => rfl) ?_
      simp (disch := omega) only [go_sem, ↓reduceIte, Nat.reduceEqDiff, Nat.reduceLT, Nat.reduceLeDiff, Nat.reduceAdd, Nat.reduceMul, Nat.reduceSub, Nat.reduceDiv, Nat.reduceMod, Int.reduceToNat, Int.reduceLT, Int.reduceLE, Int.reduceAdd, Int.reduceSub, Int.reduceMul, Int.reduceEq, Int.reduceNeg, reduceCtorEq, or_false, false_or, decide_true, decide_false, Int.cast_ofNat_Int, Nat.zero_add, Nat.add_zero, Int.toNat_natCast, Option.isNone_none, Option.isNone_some, Bool.not_true, Bool.not_false, Bool.xor_true, Bool.xor_false, Bool.true_xor, Bool.false_xor, decide_true, decide_false, Bool.and_true, Bool.true_and, Bool.and_false, Bool.false_and, eq_self, ne_eq, not_false_eq_true, not_true_eq_false, true_and, and_true, and_self, wrapI64, wrapu64, wrapu32, wrapu8, ltT, ltF, leT, leF, eqF, eqT, nltT, nleT, neqFn]
      refine ⟨?_, ?_⟩
      · refine writes_list 0 rfl l0 ps f0 8 (by decide) h1 true rfl fun i hi hend hle => ⟨fun hnil => ?_, fun c hc => ?_⟩
        · simp (disch := omega) only [go_sem, ↓reduceIte, Nat.reduceEqDiff, Nat.reduceLT, Nat.reduceLeDiff, Nat.reduceAdd, Nat.reduceMul, Nat.reduceSub, Nat.reduceDiv, Nat.reduceMod, Int.reduceToNat, Int.reduceLT, Int.reduceLE, Int.reduceAdd, Int.reduceSub, Int.reduceMul, Int.reduceEq, Int.reduceNeg, reduceCtorEq, or_false, false_or, decide_true, decide_false, Int.cast_ofNat_Int, Nat.zero_add, Nat.add_zero, Int.toNat_natCast, Option.isNone_none, Option.isNone_some, Bool.not_true, Bool.not_false, Bool.xor_true, Bool.xor_false, Bool.true_xor, Bool.false_xor, decide_true, decide_false, Bool.and_true, Bool.true_and, Bool.and_false, Bool.false_and, eq_self, ne_eq, not_false_eq_true, not_true_eq_false, true_and, and_true, and_self, wrapI64, wrapu64, wrapu32, wrapu8, ltT, ltF, leT, leF, eqF, eqT, nltT, nleT, neqFn]
          exact fun ρ a w' hs _ => ⟨[dfl], some ((ρ 4).blk, 1), dealP_d, by simp [SV.den, CV.den, CV.denL, slv, (hs.now.hp _ _ (mem_hget (n := 4) rfl)).1], ⟨by simp, rowsAt_of (hs.now.hp _ _ (mem_hget (n := 4) rfl)) rfl fun j hj => by
            have : j = 0 := by simp at hj; omega
            subst this; rfl⟩, hs.grown, fun b c h => by
            injection h with h; injection h with h _
            rw [← h]
            exact (hs.now.hp _ _ (mem_hget (n := 4) rfl)).2.2.2.elim id fun h => h.elim⟩
        · simp (disch := omega) only [go_sem, ↓reduceIte, Nat.reduceEqDiff, Nat.reduceLT, Nat.reduceLeDiff, Nat.reduceAdd, Nat.reduceMul, Nat.reduceSub, Nat.reduceDiv, Nat.reduceMod, Int.reduceToNat, Int.reduceLT, Int.reduceLE, Int.reduceAdd, Int.reduceSub, Int.reduceMul, Int.reduceEq, Int.reduceNeg, reduceCtorEq, or_false, false_or, decide_true, decide_false, Int.cast_ofNat_Int, Nat.zero_add, Nat.add_zero, Int.toNat_natCast, Option.isNone_none, Option.isNone_some, Bool.not_true, Bool.not_false, Bool.xor_true, Bool.xor_false, Bool.true_xor, Bool.false_xor, decide_true, decide_false, Bool.and_true, Bool.true_and, Bool.and_false, Bool.false_and, eq_self, ne_eq, not_false_eq_true, not_true_eq_false, true_and, and_true, and_self, wrapI64, wrapu64, wrapu32, wrapu8, ltT, ltF, leT, leF, eqF, eqT, nltT, nleT, neqFn]
          exact fun ρ a w' hs _ => ⟨wouts true ps i, some ((ρ 3).blk, c), dealP_t hle hc.2, by simp [SV.den, CV.den, CV.denL, slv, (hs.now.hp _ _ (mem_hget (n := 3) rfl)).1], ⟨hc, rowsAt_of (hs.now.hp _ _ (mem_hget (n := 3) rfl)) rfl fun j _ => map_v _ _⟩, hs.grown, fun b c h => by
            injection h with h; injection h with h _
            rw [← h]
            exact (hs.now.hp _ _ (mem_hget (n := 3) rfl)).2.2.2.elim id fun h => h.elim⟩
      · refine writes_list 0 rfl l0 ps f0 8 (by decide) h1 true rfl fun i hi hend hle => ⟨fun hnil => ?_, fun c hc => ?_⟩
        · simp (disch := omega) only [go_sem, ↓reduceIte, Nat.reduceEqDiff, Nat.reduceLT, Nat.reduceLeDiff, Nat.reduceAdd, Nat.reduceMul, Nat.reduceSub, Nat.reduceDiv, Nat.reduceMod, Int.reduceToNat, Int.reduceLT, Int.reduceLE, Int.reduceAdd, Int.reduceSub, Int.reduceMul, Int.reduceEq, Int.reduceNeg, reduceCtorEq, or_false, false_or, decide_true, decide_false, Int.cast_ofNat_Int, Nat.zero_add, Nat.add_zero, Int.toNat_natCast, Option.isNone_none, Option.isNone_some, Bool.not_true, Bool.not_false, Bool.xor_true, Bool.xor_false, Bool.true_xor, Bool.false_xor, decide_true, decide_false, Bool.and_true, Bool.true_and, Bool.and_false, Bool.false_and, eq_self, ne_eq, not_false_eq_true, not_true_eq_false, true_and, and_true, and_self, wrapI64, wrapu64, wrapu32, wrapu8, ltT, ltF, leT, leF, eqF, eqT, nltT, nleT, neqFn]
          exact fun ρ a w' hs _ => ⟨[dfl], some ((ρ 4).blk, 1), dealP_d, by simp [SV.den, CV.den, CV.denL, slv, (hs.now.hp _ _ (mem_hget (n := 4) rfl)).1], ⟨by simp, rowsAt_of (hs.now.hp _ _ (mem_hget (n := 4) rfl)) rfl fun j hj => by
            have : j = 0 := by simp at hj; omega
            subst this; rfl⟩, hs.grown, fun b c h => by
            injection h with h; injection h with h _
            rw [← h]
            exact (hs.now.hp _ _ (mem_hget (n := 4) rfl)).2.2.2.elim id fun h => h.elim⟩
        · simp (disch := omega) only [go_sem, ↓reduceIte, Nat.reduceEqDiff, Nat.reduceLT, Nat.reduceLeDiff, Nat.reduceAdd, Nat.reduceMul, Nat.reduceSub, Nat.reduceDiv, Nat.reduceMod, Int.reduceToNat, Int.reduceLT, Int.reduceLE, Int.reduceAdd, Int.reduceSub, Int.reduceMul, Int.reduceEq, Int.reduceNeg, reduceCtorEq, or_false, false_or, decide_true, decide_false, Int.cast_ofNat_Int, Nat.zero_add, Nat.add_zero, Int.toNat_natCast, Option.isNone_none, Option.isNone_some, Bool.not_true, Bool.not_false, Bool.xor_true, Bool.xor_false, Bool.true_xor, Bool.false_xor, decide_true, decide_false, Bool.and_true, Bool.true_and, Bool.and_false, Bool.false_and, eq_self, ne_eq, not_false_eq_true, not_true_eq_false, true_and, and_true, and_self, wrapI64, wrapu64, wrapu32, wrapu8, ltT, ltF, leT, leF, eqF, eqT, nltT, nleT, neqFn]
          exact fun ρ a w' hs _ => ⟨wouts true ps i, some ((ρ 4).blk, c), dealP_t hle hc.2, by simp [SV.den, CV.den, CV.denL, slv, (hs.now.hp _ _ (mem_hget (n := 4) rfl)).1], ⟨hc, rowsAt_of (hs.now.hp _ _ (mem_hget (n := 4) rfl)) rfl fun j _ => map_v _ _⟩, hs.grown, fun b c h => by
            injection h with h; injection h with h _
            rw [← h]
            exact (hs.now.hp _ _ (mem_hget (n := 4) rfl)).2.2.2.elim id fun h => h.elim⟩
    · refine scall_pure [.agg #[vu m.v.a, vu m.v.b, vu m.v.c, vu m.v.d, .int .i64 m.dc, .bool true]] (sst (mk m true).v.a (mk m true).v.b (mk m true).v.c (mk m true).v.d (mk m true).dc) (mk m true).val Try.call36 (hmark true) rfl (fun _ => rfl) (fun _ => rfl) ?_
      simp (disch := omega) only [go_sem, ↓reduceIte, Nat.reduceEqDiff, Nat.reduceLT, Nat.reduceLeDiff, Nat.reduceAdd, Nat.reduceMul, Nat.reduceSub, Nat.reduceDiv, Nat.reduceMod, Int.reduceToNat, Int.reduceLT, Int.reduceLE, Int.reduceAdd, Int.reduceSub, Int.reduceMul, Int.reduceEq, Int.reduceNeg, reduceCtorEq, or_false, false_or, decide_true, decide_false, Int.cast_ofNat_Int, Nat.zero_add, Nat.add_zero, Int.toNat_natCast, Option.isNone_none, Option.isNone_some, Bool.not_true, Bool.not_false, Bool.xor_true, Bool.xor_false, Bool.true_xor, Bool.false_xor, decide_true, decide_false, Bool.and_true, Bool.true_and, Bool.and_false, Bool.false_and, eq_self, ne_eq, not_false_eq_true, not_true_eq_false, true_and, and_true, and_self, wrapI64, wrapu64, wrapu32, wrapu8, ltT, ltF, leT, leF, eqF, eqT, nltT, nleT, neqFn]
      refine writes_list 0 rfl l0 ps f0 8 (by decide) h1 true rfl fun i hi hend hle => ⟨fun hnil => ?_, fun c hc => ?_⟩
      · simp (disch := omega) only [go_sem, ↓reduceIte, Nat.reduceEqDiff, Nat.reduceLT, Nat.reduceLeDiff, Nat.reduceAdd, Nat.reduceMul, Nat.reduceSub, Nat.reduceDiv, Nat.reduceMod, Int.reduceToNat, Int.reduceLT, Int.reduceLE, Int.reduceAdd, Int.reduceSub, Int.reduceMul, Int.reduceEq, Int.reduceNeg, reduceCtorEq, or_false, false_or, decide_true, decide_false, Int.cast_ofNat_Int, Nat.zero_add, Nat.add_zero, Int.toNat_natCast, Option.isNone_none, Option.isNone_some, Bool.not_true, Bool.not_false, Bool.xor_true, Bool.xor_false, Bool.true_xor, Bool.false_xor, decide_true, decide_false, Bool.and_true, Bool.true_and, Bool.and_false, Bool.false_and, eq_self, ne_eq, not_false_eq_true, not_true_eq_false, true_and, and_true, and_self, wrapI64, wrapu64, wrapu32, wrapu8, ltT, ltF, leT, leF, eqF, eqT, nltT, nleT, neqFn]
        exact fun ρ a w' hs _ => ⟨[dfl], some ((ρ 4).blk, 1), dealP_d, by simp [SV.den, CV.den, CV.denL, slv, (hs.now.hp _ _ (mem_hget (n := 4) rfl)).1], ⟨by simp, rowsAt_of (hs.now.hp _ _ (mem_hget (n := 4) rfl)) rfl fun j hj => by
          have : j = 0 := by simp at hj; omega
          subst this; rfl⟩, hs.grown, fun b c h => by
          injection h with h; injection h with h _
          rw [← h]
          exact (hs.now.hp _ _ (mem_hget (n := 4) rfl)).2.2.2.elim id fun h => h.elim⟩
      · simp (disch := omega) only [go_sem, ↓reduceIte, Nat.reduceEqDiff, Nat.reduceLT, Nat.reduceLeDiff, Nat.reduceAdd, Nat.reduceMul, Nat.reduceSub, Nat.reduceDiv, Nat.reduceMod, Int.reduceToNat, Int.reduceLT, Int.reduceLE, Int.reduceAdd, Int.reduceSub, Int.reduceMul, Int.reduceEq, Int.reduceNeg, reduceCtorEq, or_false, false_or, decide_true, decide_false, Int.cast_ofNat_Int, Nat.zero_add, Nat.add_zero, Int.toNat_natCast, Option.isNone_none, Option.isNone_some, Bool.not_true, Bool.not_false, Bool.xor_true, Bool.xor_false, Bool.true_xor, Bool.false_xor, decide_true, decide_false, Bool.and_true, Bool.true_and, Bool.and_false, Bool.false_and, eq_self, ne_eq, not_false_eq_true, not_true_eq_false, true_and, and_true, and_self, wrapI64, wrapu64, wrapu32, wrapu8, ltT, ltF, leT, leF, eqF, eqT, nltT, nleT, neqFn]
        exact fun ρ a w' hs _ => ⟨wouts true ps i, some ((ρ 4).blk, c), dealP_t hle hc.2, by simp [SV.den, CV.den, CV.denL, slv, (hs.now.hp _ _ (mem_hget (n := 4) rfl)).1], ⟨hc, rowsAt_of (hs.now.hp _ _ (mem_hget (n := 4) rfl)) rfl fun j _ => map_v _ _⟩, hs.grown, fun b c h => by
          injection h with h; injection h with h _
          rw [← h]
          exact (hs.now.hp _ _ (mem_hget (n := 4) rfl)).2.2.2.elim id fun h => h.elim⟩
end Go.Proofs.Ytagjblkfgjcmnaa
namespace Go.Proofs.Ytagjblkfgjcmnaa
open Go.RowKit Go.Sx
theorem sld_keep {w w' : World} {s : SlD} {ks : List FK} (h : s.ok w ks) (hz : w.heap.size ≤ w'.heap.size) (hb : ∀ k, k < w.heap.size → w'.heap[k]? = w.heap[k]?) : s.ok w' ks := by
  obtain ⟨h1, h2, ⟨i1, i2, i3⟩, h4⟩ := h
  refine ⟨h1, h2, ⟨fun hm => Nat.lt_of_lt_of_le (i1 hm) hz, i2, fun i hi q hq => ?_⟩, h4⟩
  rw [← i3 i hi q hq]
  simp [World.cell?, hb s.b (i1 (by omega))]
section
variable {C : Cx} {fr : List (Nat × SV)} {hp : List (Nat × Blk)} {nx : Nat} {d : Option Tmp} {K : St → Prop}
theorem deal_s (m : Stp) (mo own : Bool) (s : SlD) (hs : s.ok C.w0 putK) (hM : ∀ k, ¬ C.M k) (hd : dkB C.N d = true)
    (hK : ∀ ws, DealP own ws → (ws = [] → kput K ⟨fr, hp, nx⟩ d (.agg [cu (mk m (own || mo)).v.a, cu (mk m (own || mo)).v.b, cu (mk m (own || mo)).v.c, cu (mk m (own || mo)).v.d, ci (mk m (own || mo)).dc, .v (.slice none 0 0)])) ∧
      ∀ c, ws.length ≤ c → 0 < ws.length → kput K ⟨fr, (nx, .rows 42 4 ws.length c fun j => (wrw ws j).map .v) :: hp, nx + 1⟩ d (.agg [cu (mk m (own || mo)).v.a, cu (mk m (own || mo)).v.b, cu (mk m (own || mo)).v.c, cu (mk m (own || mo)).v.d, ci (mk m (own || mo)).dc, .s nx 0 ws.length c])) :
    SCall Try.prog C 11 [.agg [cu m.v.a, cu m.v.b, cu m.v.c, cu m.v.d, ci m.dc, .v (.bool mo), .v s.val, .v (.bool own)]] d K ⟨fr, hp, nx⟩ := by
  refine ⟨rfl, fun ρ w a hsat _ => .inl ⟨fun v w => Try.call11 _ w, ?_⟩⟩
  have hkeep := hsat.now.keeps
  have hs' := sld_keep hs hkeep.size fun k hk => hkeep.block k hk (hM k)
  refine (deal_c w m mo own s hs').mono fun e w' ⟨ws, t, hP, he, hw, hb, hf⟩ => ⟨_, he, ?_⟩
  obtain ⟨k0, k1⟩ := hK ws hP
  have hs2 := hsat.below hb
  rcases t with _ | ⟨b, c⟩
  · have hws : ws = [] := hw
    refine ⟨_, ρ, k0 hws, hs2.put (dk_of hd) fun _ ρ' _ => ?_, by cases d <;> simp [St.put], fun _ _ => rfl⟩
    rw [hws]; simp [slv, SV.den, CV.den, CV.denL]
  · have hlt := hf b c rfl
    have h1 := hs2.add (.rows 42 4 ws.length c fun j => (wrw ws j).map .v) ⟨b, 0, 4⟩ [b] (fun ρ' hρ hn => hw.2.holds hn (.inl (Nat.le_trans hsat.now.keeps.size hlt)) fun i _ => map_v _ _)
      (fun ρ' hn => by simp [Blk.foot, hn]) (fun k hk hm => by
        have := (hsat.now.foot_lt hm).1
        simp at hk; omega) (by simp)
    refine ⟨_, _, k1 c hw.1.1 hw.1.2, h1.put (dk_of hd) fun _ ρ' hρ' => ?_, by cases d <;> simp [St.put], fun k hk => by simp [envSet, Nat.ne_of_lt hk]⟩
    have := hρ' nx (by simp)
    simp [envSet] at this
    simp [slv, SV.den, CV.den, CV.denL, this]
theorem push_all {s : ShS} {st : Stp} {ws : List Wr} (h : st.right = true) (hr : ∀ x, x ∈ ws → x.right = true) (hl : s.w.length < s.room) : s.pushB st ws = true ∧ s.push st ws = { s with w := s.w ++ [(st, ws)] } := by
  have h1 : (ws.any fun x => !x.right) = false := by
    rw [List.any_eq_false]
    intro x hx; rw [hr x hx]; simp
  have h2 : s.pushB st ws = true := by unfold ShS.pushB; rw [h, h1]; simp [hl]
  exact ⟨h2, by unfold ShS.push; rw [h2]; rfl⟩
theorem foldA_len (st : Stp) (ws : List Wr) (L : List CW.Ver) : (ws.foldl (addV st) L).length ≤ L.length + ws.length := by
  have := foldV_len (st := st) (ws := ws) (l := L) ws.length
  unfold foldV at this
  rwa [List.take_length] at this
theorem nst_s {st : Stp} (h : dOk C.N d ∧ kput K ⟨fr, hp, nx⟩ d (.c (cu st.n))) : SCall Try.prog C 31 [sst st.v.a st.v.b st.v.c st.v.d st.dc] d K ⟨fr, hp, nx⟩ := n_s h
theorem pwrite_s (x : Wr) (own : Bool) (k : Nat) (hk : k < 256) (h : dOk C.N d ∧ kput K ⟨fr, hp, nx⟩ d (.agg (pwr x own k).c)) : SCall Try.prog C 13 [.agg [.v (.string x.b), .v (.string x.k), .v (.string x.x), .v (.bool x.g), .v (.bool own), .v (.int .u8 k)]] d K ⟨fr, hp, nx⟩ :=
  scall_pure [.agg #[.string x.b, .string x.k, .string x.x, .bool x.g, .bool own, .int .u8 k]] (.agg (pwr x own k).c) (pwr x own k).val Try.call13 (pwrite_c x own k hk) rfl (fun _ => rfl) (fun _ => rfl) h
theorem vector_s (x : V4) (own : Bool) (h : dOk C.N d ∧ kput K ⟨fr, hp, nx⟩ d (sv4 (few x own).a (few x own).b (few x own).c (few x own).d)) : SCall Try.prog C 12 [.agg [cu x.a, cu x.b, cu x.c, cu x.d, .v (.bool own)]] d K ⟨fr, hp, nx⟩ :=
  scall_pure [.agg #[vu x.a, vu x.b, vu x.c, vu x.d, .bool own]] (sv4 (few x own).a (few x own).b (few x own).c (few x own).d) (few x own).v Try.call12 (vector_c x own) rfl (fun _ => rfl) (fun _ => rfl) h
end
theorem sld_one {s : SlD} : one1 (.v s.val) = true := (rfl)
attribute [go_sem] sld_one
structure DlR where
  m : Stp
  mo : Bool
  s : SlD
  own : Bool
def DlR.row (x : DlR) : List CV := [cu x.m.v.a, cu x.m.v.b, cu x.m.v.c, cu x.m.v.d, ci x.m.dc, .v (.bool x.mo), .v x.s.val, .v (.bool x.own)]
abbrev dlrK : List FL := [.f (.i .u64), .f (.i .u64), .f (.i .u64), .f (.i .u64), .f (.i .i64), .f .b, .l putK, .f .b]
structure DlR.ok (W : World) (x : DlR) : Prop where
  s : x.s.ok W putK
  nn : 0 ≤ x.m.v.a ∧ 0 ≤ x.m.v.b ∧ 0 ≤ x.m.v.c ∧ 0 ≤ x.m.v.d
theorem row_dlr {W : World} {l : List Value} {r : List FL} (h : NOk W (dlrK ++ r) l) : ∃ x : DlR, x.ok W ∧ ∃ l', l.map CV.v = x.row ++ l'.map CV.v ∧ NOk W r l' := by
  have nn : ∀ {a : Int}, (Lit.int .u64 a).wf = true → 0 ≤ a := fun hw => by obtain ⟨n, rfl, _⟩ := u64_nat hw; omega
  obtain ⟨a0, l0, rfl, w0, g0⟩ := nokI h
  obtain ⟨a1, l1, rfl, w1, g1⟩ := nokI g0
  obtain ⟨a2, l2, rfl, w2, g2⟩ := nokI g1
  obtain ⟨a3, l3, rfl, w3, g3⟩ := nokI g2
  obtain ⟨a4, l4, rfl, w4, g4⟩ := nokI g3
  obtain ⟨a5, l5, rfl, g5⟩ := nokB g4
  have g5 : NOk W (.l putK :: .f .b :: r) l5 := g5
  obtain ⟨v, l6, rfl, hv, g6⟩ := nokL g5
  obtain ⟨a7, l7, rfl, g7⟩ := nokB g6
  obtain ⟨s, rfl, hs⟩ := hv.out
  exact ⟨⟨⟨⟨a0, a1, a2, a3⟩, a4⟩, a5, s, a7⟩, ⟨hs, nn w0, nn w1, nn w2, nn w3⟩, l7, rfl, g7⟩
theorem put_flat {l : List Value} (h : FOk putK l) : ∃ p : Pt, p.k < 256 ∧ l = [.string p.x.b, .string p.x.k, .string p.x.x, .bool p.x.g, .bool p.own, .int .u8 p.k] := by
  match l, h with
  | [_, _, _, _, _, _], ⟨⟨b, rfl, _⟩, ⟨k, rfl, _⟩, ⟨x, rfl, _⟩, ⟨g, rfl⟩, ⟨o, rfl⟩, ⟨n, rfl, hw⟩, _⟩ =>
    obtain ⟨m, rfl, hm⟩ := u8_nat hw
    exact ⟨⟨⟨b, k, x, g⟩, o, m⟩, hm, rfl⟩
abbrev vecK : List FK := [.i .u64, .i .u64, .i .u64, .i .u64, .b]
theorem vec_flat {l : List Value} (h : FOk vecK l) : ∃ (x : V4) (o : Bool), (0 ≤ x.a ∧ 0 ≤ x.b ∧ 0 ≤ x.c ∧ 0 ≤ x.d) ∧ l = [vu x.a, vu x.b, vu x.c, vu x.d, .bool o] := by
  match l, h with
  | [_, _, _, _, _], ⟨⟨a, rfl, h1⟩, ⟨b, rfl, h2⟩, ⟨c, rfl, h3⟩, ⟨d, rfl, h4⟩, ⟨o, rfl⟩, _⟩ =>
    obtain ⟨a, rfl, _⟩ := u64_nat h1
    obtain ⟨b, rfl, _⟩ := u64_nat h2
    obtain ⟨c, rfl, _⟩ := u64_nat h3
    obtain ⟨d, rfl, _⟩ := u64_nat h4
    exact ⟨⟨a, b, c, d⟩, o, ⟨by simp only; omega, by simp only; omega, by simp only; omega, by simp only; omega⟩, rfl⟩
theorem dlr_flat {W : World} {l : List Value} (h : NOk W dlrK l) : ∃ x : DlR, x.ok W ∧ l = [vu x.m.v.a, vu x.m.v.b, vu x.m.v.c, vu x.m.v.d, .int .i64 x.m.dc, .bool x.mo, x.s.val, .bool x.own] := by
  have nn : ∀ {a : Int}, (Lit.int .u64 a).wf = true → 0 ≤ a := fun hw => by obtain ⟨n, rfl, _⟩ := u64_nat hw; omega
  obtain ⟨a0, l0, rfl, w0, g0⟩ := nokI h
  obtain ⟨a1, l1, rfl, w1, g1⟩ := nokI g0
  obtain ⟨a2, l2, rfl, w2, g2⟩ := nokI g1
  obtain ⟨a3, l3, rfl, w3, g3⟩ := nokI g2
  obtain ⟨a4, l4, rfl, w4, g4⟩ := nokI g3
  obtain ⟨a5, l5, rfl, g5⟩ := nokB g4
  obtain ⟨v, l6, rfl, hv, g6⟩ := nokL g5
  obtain ⟨a7, l7, rfl, g7⟩ := nokB g6
  obtain rfl := nok0 g7
  obtain ⟨s, rfl, hs⟩ := hv.out
  exact ⟨⟨⟨⟨a0, a1, a2, a3⟩, a4⟩, a5, s, a7⟩, ⟨hs, nn w0, nn w1, nn w2, nn w3⟩, rfl⟩
end Go.Proofs.Ytagjblkfgjcmnaa
namespace Go.Proofs.Ytagjblkfgjcmnaa
open Go.RowKit Go.Sx CW
abbrev x10S : Stp := ⟨⟨1, 0, 0, 0⟩, 1⟩
abbrev x10W : Wr := ⟨⟨#[98]⟩, ⟨#[107]⟩, ⟨#[118]⟩, false⟩
abbrev x10A : ShS := ⟨2, [(x10S, [x10W])], [], ⟨0, 0, 0, 0⟩⟩
abbrev x10B : ShS := ⟨2, [], [⟨x10S, x10W⟩], ⟨1, 0, 0, 0⟩⟩
abbrev x10K : Ky := (⟨#[98]⟩, ⟨#[107]⟩)
theorem x10_chn : chn [⟨x10S, x10W⟩] x10K = [⟨x10S, x10W⟩] := by kernel_rfl
theorem x10_1 : (ShS.new 2).pushB x10S [x10W] = true := by decide +kernel
theorem x10_2 : (ShS.new 2).push x10S [x10W] = x10A := by unfold ShS.push; rw [x10_1]; rfl
theorem x10_3 : (x10A.rdO x10K ⟨1, 0, 0, 0⟩ && !(x10A.rd x10K ⟨1, 0, 0, 0⟩).x.g) = false := by decide +kernel
theorem x10_4 : x10A.step = x10B := by
  have : addV x10S [] x10W = [⟨x10S, x10W⟩] := by kernel_rfl
  show (⟨2, [], [x10W].foldl (addV x10S) [], _⟩ : ShS) = _
  simp only [List.foldl_cons, List.foldl_nil, this]
  rfl
theorem x10_5 : x10B.step = x10B := rfl
theorem x10_6 : x10B.rd x10K ⟨1, 0, 0, 0⟩ = ⟨x10S, x10W⟩ := by kernel_rfl
theorem x10_7 : x10B.rdO x10K ⟨1, 0, 0, 0⟩ = true := by decide +kernel
theorem x10_8 : x10B.rdO x10K ⟨0, 0, 0, 0⟩ = false := by decide +kernel
theorem x10_9 : x10B.la x10K = ⟨x10S, x10W⟩ := by kernel_rfl
theorem x10_10 : x10B.laO x10K = true := by decide +kernel
theorem x10_11 : pruL x10B.l ⟨1, 0, 0, 0⟩ = x10B.l := by kernel_rfl
set_option maxHeartbeats 8000000 in
set_option maxRecDepth 100000 in
theorem ex_c (w : World) : Calls Try.prog 8 #[] w fun e w' => e = .returned (.bool true) ∧ Below w.heap.size w w' := by
  refine calls_pure 148 _ Try.func8 rfl Try.ntmps8 Try.results8 [] (by simp) (fun _ => rfl) ?_
  simp (disch := omega) only [go_sem, ↓reduceIte, Nat.reduceEqDiff, Nat.reduceLT, Nat.reduceLeDiff, Nat.reduceAdd, Nat.reduceMul, Nat.reduceSub, Nat.reduceDiv, Nat.reduceMod, Int.reduceToNat, Int.reduceLT, Int.reduceLE, Int.reduceAdd, Int.reduceSub, Int.reduceMul, Int.reduceEq, Int.reduceNeg, reduceCtorEq, or_false, false_or, decide_true, decide_false, Int.cast_ofNat_Int, Nat.zero_add, Nat.add_zero, Int.toNat_natCast, Option.isNone_none, Option.isNone_some, Bool.not_true, Bool.not_false, Bool.xor_true, Bool.xor_false, Bool.true_xor, Bool.false_xor, decide_true, decide_false, Bool.and_true, Bool.true_and, Bool.and_false, Bool.false_and, eq_self, ne_eq, not_false_eq_true, not_true_eq_false, true_and, and_true, and_self, wrapI64, wrapu64, wrapu32, wrapu8, ltT, ltF, leT, leF, eqF, eqT, nltT, nleT, neqFn]
  refine shnew_bad (by decide) ?_
  simp (disch := omega) only [go_sem, ↓reduceIte, Nat.reduceEqDiff, Nat.reduceLT, Nat.reduceLeDiff, Nat.reduceAdd, Nat.reduceMul, Nat.reduceSub, Nat.reduceDiv, Nat.reduceMod, Int.reduceToNat, Int.reduceLT, Int.reduceLE, Int.reduceAdd, Int.reduceSub, Int.reduceMul, Int.reduceEq, Int.reduceNeg, reduceCtorEq, or_false, false_or, decide_true, decide_false, Int.cast_ofNat_Int, Nat.zero_add, Nat.add_zero, Int.toNat_natCast, Option.isNone_none, Option.isNone_some, Bool.not_true, Bool.not_false, Bool.xor_true, Bool.xor_false, Bool.true_xor, Bool.false_xor, decide_true, decide_false, Bool.and_true, Bool.true_and, Bool.and_false, Bool.false_and, eq_self, ne_eq, not_false_eq_true, not_true_eq_false, true_and, and_true, and_self, wrapI64, wrapu64, wrapu32, wrapu8, ltT, ltF, leT, leF, eqF, eqT, nltT, nleT, neqFn]
  refine shnew_s (by decide) rfl fun g fp0 => ?_
  simp (disch := omega) only [go_sem, ↓reduceIte, Nat.reduceEqDiff, Nat.reduceLT, Nat.reduceLeDiff, Nat.reduceAdd, Nat.reduceMul, Nat.reduceSub, Nat.reduceDiv, Nat.reduceMod, Int.reduceToNat, Int.reduceLT, Int.reduceLE, Int.reduceAdd, Int.reduceSub, Int.reduceMul, Int.reduceEq, Int.reduceNeg, reduceCtorEq, or_false, false_or, decide_true, decide_false, Int.cast_ofNat_Int, Nat.zero_add, Nat.add_zero, Int.toNat_natCast, Option.isNone_none, Option.isNone_some, Bool.not_true, Bool.not_false, Bool.xor_true, Bool.xor_false, Bool.true_xor, Bool.false_xor, decide_true, decide_false, Bool.and_true, Bool.true_and, Bool.and_false, Bool.false_and, eq_self, ne_eq, not_false_eq_true, not_true_eq_false, true_and, and_true, and_self, wrapI64, wrapu64, wrapu32, wrapu8, ltT, ltF, leT, leF, eqF, eqT, nltT, nleT, neqFn]
  refine shpush_s 0 x10S [x10W] (.rows 3 1 1 1 _ rfl ⟨by simp, by simp⟩ (fun i hi => by
    have : i = 0 := by simp at hi; omega
    subst this; rfl)) (by simp) rfl rfl fun fp1 => ?_
  simp (disch := omega) only [go_sem, ↓reduceIte, Nat.reduceEqDiff, Nat.reduceLT, Nat.reduceLeDiff, Nat.reduceAdd, Nat.reduceMul, Nat.reduceSub, Nat.reduceDiv, Nat.reduceMod, Int.reduceToNat, Int.reduceLT, Int.reduceLE, Int.reduceAdd, Int.reduceSub, Int.reduceMul, Int.reduceEq, Int.reduceNeg, reduceCtorEq, or_false, false_or, decide_true, decide_false, Int.cast_ofNat_Int, Nat.zero_add, Nat.add_zero, Int.toNat_natCast, Option.isNone_none, Option.isNone_some, Bool.not_true, Bool.not_false, Bool.xor_true, Bool.xor_false, Bool.true_xor, Bool.false_xor, decide_true, decide_false, Bool.and_true, Bool.true_and, Bool.and_false, Bool.false_and, eq_self, ne_eq, not_false_eq_true, not_true_eq_false, true_and, and_true, and_self, wrapI64, wrapu64, wrapu32, wrapu8, ltT, ltF, leT, leF, eqF, eqT, nltT, nleT, neqFn, x10_1, x10_2]
  refine shwait_s 0 rfl rfl ?_
  simp (disch := omega) only [go_sem, ↓reduceIte, Nat.reduceEqDiff, Nat.reduceLT, Nat.reduceLeDiff, Nat.reduceAdd, Nat.reduceMul, Nat.reduceSub, Nat.reduceDiv, Nat.reduceMod, Int.reduceToNat, Int.reduceLT, Int.reduceLE, Int.reduceAdd, Int.reduceSub, Int.reduceMul, Int.reduceEq, Int.reduceNeg, reduceCtorEq, or_false, false_or, decide_true, decide_false, Int.cast_ofNat_Int, Nat.zero_add, Nat.add_zero, Int.toNat_natCast, Option.isNone_none, Option.isNone_some, Bool.not_true, Bool.not_false, Bool.xor_true, Bool.xor_false, Bool.true_xor, Bool.false_xor, decide_true, decide_false, Bool.and_true, Bool.true_and, Bool.and_false, Bool.false_and, eq_self, ne_eq, not_false_eq_true, not_true_eq_false, true_and, and_true, and_self, wrapI64, wrapu64, wrapu32, wrapu8, ltT, ltF, leT, leF, eqF, eqT, nltT, nleT, neqFn]
  refine shread_s 0 (by decide) x10K ⟨1, 0, 0, 0⟩ rfl rfl fun fp2 => ?_
  rw [x10_3]
  simp (disch := omega) only [go_sem, ↓reduceIte, Nat.reduceEqDiff, Nat.reduceLT, Nat.reduceLeDiff, Nat.reduceAdd, Nat.reduceMul, Nat.reduceSub, Nat.reduceDiv, Nat.reduceMod, Int.reduceToNat, Int.reduceLT, Int.reduceLE, Int.reduceAdd, Int.reduceSub, Int.reduceMul, Int.reduceEq, Int.reduceNeg, reduceCtorEq, or_false, false_or, decide_true, decide_false, Int.cast_ofNat_Int, Nat.zero_add, Nat.add_zero, Int.toNat_natCast, Option.isNone_none, Option.isNone_some, Bool.not_true, Bool.not_false, Bool.xor_true, Bool.xor_false, Bool.true_xor, Bool.false_xor, decide_true, decide_false, Bool.and_true, Bool.true_and, Bool.and_false, Bool.false_and, eq_self, ne_eq, not_false_eq_true, not_true_eq_false, true_and, and_true, and_self, wrapI64, wrapu64, wrapu32, wrapu8, ltT, ltF, leT, leF, eqF, eqT, nltT, nleT, neqFn]
  refine shstep_s 0 (by decide) (fun x hx => by
    have : x = (x10S, [x10W]) := by simpa using hx
    subst this; simp) rfl rfl fun fp3 => ?_
  rw [x10_4, show (!x10A.w.isEmpty) = true from rfl]
  simp (disch := omega) only [go_sem, ↓reduceIte, Nat.reduceEqDiff, Nat.reduceLT, Nat.reduceLeDiff, Nat.reduceAdd, Nat.reduceMul, Nat.reduceSub, Nat.reduceDiv, Nat.reduceMod, Int.reduceToNat, Int.reduceLT, Int.reduceLE, Int.reduceAdd, Int.reduceSub, Int.reduceMul, Int.reduceEq, Int.reduceNeg, reduceCtorEq, or_false, false_or, decide_true, decide_false, Int.cast_ofNat_Int, Nat.zero_add, Nat.add_zero, Int.toNat_natCast, Option.isNone_none, Option.isNone_some, Bool.not_true, Bool.not_false, Bool.xor_true, Bool.xor_false, Bool.true_xor, Bool.false_xor, decide_true, decide_false, Bool.and_true, Bool.true_and, Bool.and_false, Bool.false_and, eq_self, ne_eq, not_false_eq_true, not_true_eq_false, true_and, and_true, and_self, wrapI64, wrapu64, wrapu32, wrapu8, ltT, ltF, leT, leF, eqF, eqT, nltT, nleT, neqFn]
  refine shstep_s 0 (by decide) (fun x hx => by cases hx) rfl rfl fun fp4 => ?_
  rw [x10_5, show (!x10B.w.isEmpty) = false from rfl]
  simp (disch := omega) only [go_sem, ↓reduceIte, Nat.reduceEqDiff, Nat.reduceLT, Nat.reduceLeDiff, Nat.reduceAdd, Nat.reduceMul, Nat.reduceSub, Nat.reduceDiv, Nat.reduceMod, Int.reduceToNat, Int.reduceLT, Int.reduceLE, Int.reduceAdd, Int.reduceSub, Int.reduceMul, Int.reduceEq, Int.reduceNeg, reduceCtorEq, or_false, false_or, decide_true, decide_false, Int.cast_ofNat_Int, Nat.zero_add, Nat.add_zero, Int.toNat_natCast, Option.isNone_none, Option.isNone_some, Bool.not_true, Bool.not_false, Bool.xor_true, Bool.xor_false, Bool.true_xor, Bool.false_xor, decide_true, decide_false, Bool.and_true, Bool.true_and, Bool.and_false, Bool.false_and, eq_self, ne_eq, not_false_eq_true, not_true_eq_false, true_and, and_true, and_self, wrapI64, wrapu64, wrapu32, wrapu8, ltT, ltF, leT, leF, eqF, eqT, nltT, nleT, neqFn]
  refine shread_s 0 (by decide) x10K ⟨1, 0, 0, 0⟩ rfl rfl fun fp5 => ?_
  rw [x10_6, x10_7]
  simp (disch := omega) only [go_sem, ↓reduceIte, Nat.reduceEqDiff, Nat.reduceLT, Nat.reduceLeDiff, Nat.reduceAdd, Nat.reduceMul, Nat.reduceSub, Nat.reduceDiv, Nat.reduceMod, Int.reduceToNat, Int.reduceLT, Int.reduceLE, Int.reduceAdd, Int.reduceSub, Int.reduceMul, Int.reduceEq, Int.reduceNeg, reduceCtorEq, or_false, false_or, decide_true, decide_false, Int.cast_ofNat_Int, Nat.zero_add, Nat.add_zero, Int.toNat_natCast, Option.isNone_none, Option.isNone_some, Bool.not_true, Bool.not_false, Bool.xor_true, Bool.xor_false, Bool.true_xor, Bool.false_xor, decide_true, decide_false, Bool.and_true, Bool.true_and, Bool.and_false, Bool.false_and, eq_self, ne_eq, not_false_eq_true, not_true_eq_false, true_and, and_true, and_self, wrapI64, wrapu64, wrapu32, wrapu8, ltT, ltF, leT, leF, eqF, eqT, nltT, nleT, neqFn]
  refine shread_s 0 (by decide) x10K ⟨0, 0, 0, 0⟩ rfl rfl fun fp6 => ?_
  rw [x10_8]
  simp (disch := omega) only [go_sem, ↓reduceIte, Nat.reduceEqDiff, Nat.reduceLT, Nat.reduceLeDiff, Nat.reduceAdd, Nat.reduceMul, Nat.reduceSub, Nat.reduceDiv, Nat.reduceMod, Int.reduceToNat, Int.reduceLT, Int.reduceLE, Int.reduceAdd, Int.reduceSub, Int.reduceMul, Int.reduceEq, Int.reduceNeg, reduceCtorEq, or_false, false_or, decide_true, decide_false, Int.cast_ofNat_Int, Nat.zero_add, Nat.add_zero, Int.toNat_natCast, Option.isNone_none, Option.isNone_some, Bool.not_true, Bool.not_false, Bool.xor_true, Bool.xor_false, Bool.true_xor, Bool.false_xor, decide_true, decide_false, Bool.and_true, Bool.true_and, Bool.and_false, Bool.false_and, eq_self, ne_eq, not_false_eq_true, not_true_eq_false, true_and, and_true, and_self, wrapI64, wrapu64, wrapu32, wrapu8, ltT, ltF, leT, leF, eqF, eqT, nltT, nleT, neqFn]
  refine shlast_s 0 (by decide) x10K rfl rfl fun fp7 => ?_
  rw [x10_9, x10_10]
  simp (disch := omega) only [go_sem, ↓reduceIte, Nat.reduceEqDiff, Nat.reduceLT, Nat.reduceLeDiff, Nat.reduceAdd, Nat.reduceMul, Nat.reduceSub, Nat.reduceDiv, Nat.reduceMod, Int.reduceToNat, Int.reduceLT, Int.reduceLE, Int.reduceAdd, Int.reduceSub, Int.reduceMul, Int.reduceEq, Int.reduceNeg, reduceCtorEq, or_false, false_or, decide_true, decide_false, Int.cast_ofNat_Int, Nat.zero_add, Nat.add_zero, Int.toNat_natCast, Option.isNone_none, Option.isNone_some, Bool.not_true, Bool.not_false, Bool.xor_true, Bool.xor_false, Bool.true_xor, Bool.false_xor, decide_true, decide_false, Bool.and_true, Bool.true_and, Bool.and_false, Bool.false_and, eq_self, ne_eq, not_false_eq_true, not_true_eq_false, true_and, and_true, and_self, wrapI64, wrapu64, wrapu32, wrapu8, ltT, ltF, leT, leF, eqF, eqT, nltT, nleT, neqFn]
  dsimp only [List.append]
  refine sdraw [.t 0, .t 1, .t 2, .t 3, .t 4, .t 5, .t 6, .t 7, .t 8, .t 9, .t 10, .t 11, .t 12, .t 13, .t 14, .t 15, .t 16, .t 17, .t 18, .t 19, .t 20, .t 21, .t 22, .t 23, .t 24, .t 25, .t 26, .t 27, .t 28, .t 29, .t 30, .t 31, .t 32, .t 33, .t 34, .t 35, .t 36, .t 37, .t 38, .t 39, .t 40, .t 41, .t 42, .t 43, .t 44, .t 45, .t 46, .t 47, .t 48, .t 49, .t 51, .t 52, .r 50, .t 53, .t 54, .t 55, .t 56, .r 57, .t 58, .t 59, .t 60, .t 61, .r 62, .t 63, .t 64, .t 65, .t 66, .t 67, .t 68, .r 69, .t 70, .t 71, .t 72] 73 [(1, _), (2, _), (5, _), (7, _)] rfl (by kernel_rfl) ⟨rfl, rfl, rfl, rfl, trivial⟩ ?_
  simp (maxSteps := 4000000) only [go_sem, ↓reduceIte, Nat.reduceEqDiff, Nat.reduceLT, Nat.reduceLeDiff, Nat.reduceAdd, Nat.reduceMul, Nat.reduceSub, Nat.reduceDiv, Nat.reduceMod, Int.reduceToNat, Int.reduceLT, Int.reduceLE, Int.reduceAdd, Int.reduceSub, Int.reduceMul, Int.reduceEq, Int.reduceNeg, reduceCtorEq, or_false, false_or, decide_true, decide_false, Int.cast_ofNat_Int, Nat.zero_add, Nat.add_zero, Int.toNat_natCast, Option.isNone_none, Option.isNone_some, Bool.not_true, Bool.not_false, Bool.xor_true, Bool.xor_false, Bool.true_xor, Bool.false_xor, decide_true, decide_false, Bool.and_true, Bool.true_and, Bool.and_false, Bool.false_and, eq_self, ne_eq, not_false_eq_true, not_true_eq_false, true_and, and_true, and_self]
  refine shappl_s 0 rfl rfl ?_
  simp (maxSteps := 4000000) only [go_sem, ↓reduceIte, Nat.reduceEqDiff, Nat.reduceLT, Nat.reduceLeDiff, Nat.reduceAdd, Nat.reduceMul, Nat.reduceSub, Nat.reduceDiv, Nat.reduceMod, Int.reduceToNat, Int.reduceLT, Int.reduceLE, Int.reduceAdd, Int.reduceSub, Int.reduceMul, Int.reduceEq, Int.reduceNeg, reduceCtorEq, or_false, false_or, decide_true, decide_false, Int.cast_ofNat_Int, Nat.zero_add, Nat.add_zero, Int.toNat_natCast, Option.isNone_none, Option.isNone_some, Bool.not_true, Bool.not_false, Bool.xor_true, Bool.xor_false, Bool.true_xor, Bool.false_xor, decide_true, decide_false, Bool.and_true, Bool.true_and, Bool.and_false, Bool.false_and, eq_self, ne_eq, not_false_eq_true, not_true_eq_false, true_and, and_true, and_self]
  refine shroom_s 0 (by decide) rfl rfl ?_
  simp (maxSteps := 4000000) only [go_sem, ↓reduceIte, Nat.reduceEqDiff, Nat.reduceLT, Nat.reduceLeDiff, Nat.reduceAdd, Nat.reduceMul, Nat.reduceSub, Nat.reduceDiv, Nat.reduceMod, Int.reduceToNat, Int.reduceLT, Int.reduceLE, Int.reduceAdd, Int.reduceSub, Int.reduceMul, Int.reduceEq, Int.reduceNeg, reduceCtorEq, or_false, false_or, decide_true, decide_false, Int.cast_ofNat_Int, Nat.zero_add, Nat.add_zero, Int.toNat_natCast, Option.isNone_none, Option.isNone_some, Bool.not_true, Bool.not_false, Bool.xor_true, Bool.xor_false, Bool.true_xor, Bool.false_xor, decide_true, decide_false, Bool.and_true, Bool.true_and, Bool.and_false, Bool.false_and, eq_self, ne_eq, not_false_eq_true, not_true_eq_false, true_and, and_true, and_self]
  refine shvers_s 0 (by decide) rfl rfl ?_
  simp (maxSteps := 4000000) only [go_sem, ↓reduceIte, Nat.reduceEqDiff, Nat.reduceLT, Nat.reduceLeDiff, Nat.reduceAdd, Nat.reduceMul, Nat.reduceSub, Nat.reduceDiv, Nat.reduceMod, Int.reduceToNat, Int.reduceLT, Int.reduceLE, Int.reduceAdd, Int.reduceSub, Int.reduceMul, Int.reduceEq, Int.reduceNeg, reduceCtorEq, or_false, false_or, decide_true, decide_false, Int.cast_ofNat_Int, Nat.zero_add, Nat.add_zero, Int.toNat_natCast, Option.isNone_none, Option.isNone_some, Bool.not_true, Bool.not_false, Bool.xor_true, Bool.xor_false, Bool.true_xor, Bool.false_xor, decide_true, decide_false, Bool.and_true, Bool.true_and, Bool.and_false, Bool.false_and, eq_self, ne_eq, not_false_eq_true, not_true_eq_false, true_and, and_true, and_self]
  refine shprune_s 0 (by decide) ⟨1, 0, 0, 0⟩ rfl rfl fun fp8 => ?_
  rw [x10_11]
  simp (maxSteps := 4000000) only [go_sem, ↓reduceIte, Nat.reduceEqDiff, Nat.reduceLT, Nat.reduceLeDiff, Nat.reduceAdd, Nat.reduceMul, Nat.reduceSub, Nat.reduceDiv, Nat.reduceMod, Int.reduceToNat, Int.reduceLT, Int.reduceLE, Int.reduceAdd, Int.reduceSub, Int.reduceMul, Int.reduceEq, Int.reduceNeg, reduceCtorEq, or_false, false_or, decide_true, decide_false, Int.cast_ofNat_Int, Nat.zero_add, Nat.add_zero, Int.toNat_natCast, Option.isNone_none, Option.isNone_some, Bool.not_true, Bool.not_false, Bool.xor_true, Bool.xor_false, Bool.true_xor, Bool.false_xor, decide_true, decide_false, Bool.and_true, Bool.true_and, Bool.and_false, Bool.false_and, eq_self, ne_eq, not_false_eq_true, not_true_eq_false, true_and, and_true, and_self]
  exact fun ρ a w' hs _ => ⟨rfl, hs.grown⟩
end Go.Proofs.Ytagjblkfgjcmnaa
namespace Go.Proofs.Ytagjblkfgjcmnaa
open Go.RowKit Go.Sx CW
abbrev vof (st : Stp) (x : Wr) : CW.Ver := ⟨st, x⟩
theorem wf_map {st : Stp} (hst : st.right = true) {ws : List Wr} (hn : (ws.map wkey).Nodup) : WfL (ws.map (vof st)) := by
  refine ⟨?_, fun v hv => ?_⟩
  · rw [List.pairwise_map]
    have := List.pairwise_map.1 hn
    exact this.imp fun h he => h (by simpa [Ver.ky, vof, wkey] using he.1)
  · obtain ⟨x, _, rfl⟩ := List.mem_map.1 hv
    exact hst
theorem fold_whole {st : Stp} (hst : st.right = true) : ∀ (ws pre : List Wr), ((pre ++ ws).map wkey).Nodup → ws.foldl (addV st) (pre.map (vof st)) = (pre ++ ws).map (vof st)
  | [], pre, _ => by simp
  | x :: r, pre, hn => by
    have hn' : (pre.map wkey).Nodup := by rw [List.map_append] at hn; exact (List.nodup_append.1 hn).1
    have h1 : addV st (pre.map (vof st)) x = (pre ++ [x]).map (vof st) := by
      unfold addV
      have : insB (chn (pre.map (vof st)) x.kk) st = true := by
        rw [insB_of (wf_map hst hn'), hst]
        simp only [Bool.true_and, Bool.not_eq_true', List.any_eq_false]
        intro v hv
        obtain ⟨y, hy, rfl⟩ := List.mem_map.1 hv
        rw [List.map_append, List.map_cons, List.nodup_append] at hn
        have := hn.2.2 (wkey y) (List.mem_map.2 ⟨y, hy, rfl⟩) (wkey x) (by simp)
        intro he
        exact this (of_decide_eq_true he).1
      rw [this, if_pos rfl]; simp
    have := fold_whole hst r (pre ++ [x]) (by simpa using hn)
    rw [List.foldl_cons, h1, this]; simp
theorem chn_one {st : Stp} (hst : st.right = true) {x : Wr} {r : List Wr} (hn : ((x :: r).map wkey).Nodup) : chn ((x :: r).map (vof st)) x.kk = [vof st x] := by
  have hf : (((x :: r).map (vof st)).filter fun v => decide (Ver.ky v = x.kk)) = [vof st x] := by
    simp only [List.map_cons, List.filter_cons]
    have h1 : decide (Ver.ky (vof st x) = x.kk) = true := by simp [Ver.ky, Wr.kk, vof]
    rw [if_pos h1]
    congr 1
    rw [List.filter_eq_nil_iff]
    intro v hv he
    obtain ⟨y, hy, rfl⟩ := List.mem_map.1 hv
    simp only [List.map_cons, List.nodup_cons] at hn
    exact hn.1 (by rw [show wkey x = wkey y from (of_decide_eq_true he).symm]; exact List.mem_map.2 ⟨y, hy, rfl⟩)
  unfold chn
  rw [hf]
  have : insB [] st = true := by unfold insB; rw [hst]; rfl
  simp [ins, this, pos]
theorem rd_none (s : ShS) (h : s.l = []) (k : Ky) (a : V4) : s.rdO k a = false := by
  unfold ShS.rdO CW.rdB
  rw [h, rdL_eq]; rfl
theorem wth_below {st : Stp} (hst : st.right = true) : st.seen (st.v.wth st.dc (st.n - 1)) = false := by
  have h : 0 < st.n := by
    unfold Stp.right at hst
    simp only [Bool.and_eq_true, decide_eq_true_eq] at hst
    exact hst.2
  unfold Stp.n V4.at at h
  unfold Stp.seen V4.wth V4.leq Stp.n V4.at
  by_cases h1 : st.dc = 1
  · simp only [h1, if_true] at h ⊢; simp; omega
  by_cases h2 : st.dc = 2
  · simp only [h2] at h ⊢; simp; omega
  by_cases h3 : st.dc = 3
  · simp only [h3] at h ⊢; simp; omega
  by_cases h4 : st.dc = 4
  · simp only [h4] at h ⊢; simp; omega
  · simp [h1, h2, h3, h4] at h
theorem n_bound {st : Stp} (hst : st.right = true) : 1 ≤ st.n ∧ st.n ≤ 1152921504606846976 := by
  unfold Stp.right V4.right V4.leq at hst
  simp only [Bool.and_eq_true, decide_eq_true_eq] at hst
  obtain ⟨⟨h1, h2, h3, h4⟩, h5⟩ := hst
  refine ⟨by omega, ?_⟩
  unfold Stp.n V4.at
  split
  · exact h1
  · split
    · exact h2
    · split
      · exact h3
      · split
        · exact h4
        · omega
theorem leq_refl' (x : V4) : x.leq x = true := by simp [V4.leq]
abbrev w10S (k i : Nat) (st : Stp) (ws : List Wr) : ShS := ⟨k, List.replicate (min i k) (st, ws), [], ⟨0, 0, 0, 0⟩⟩
theorem w10_push {k i : Nat} {st : Stp} {ws : List Wr} (hst : st.right = true) (hr : ∀ x, x ∈ ws → x.right = true) : (w10S k i st ws).pushB st ws = decide ((i : Int) < k) ∧ (w10S k i st ws).push st ws = w10S k (i + 1) st ws := by
  have h1 : (ws.any fun x => !x.right) = false := by
    rw [List.any_eq_false]
    intro x hx; rw [hr x hx]; simp
  have h2 : (w10S k i st ws).pushB st ws = decide ((i : Int) < k) := by
    unfold ShS.pushB
    rw [hst, h1]
    simp only [List.length_replicate, Bool.not_false, Bool.true_and, decide_eq_decide]
    omega
  refine ⟨h2, ?_⟩
  unfold ShS.push
  rw [h2]
  by_cases h : i < k
  · rw [if_pos (by simp; omega)]
    have e1 : min i k = i := by omega
    have e2 : min (i + 1) k = i + 1 := by omega
    simp only [w10S, e1, e2, List.replicate_succ']
  · rw [if_neg (by simp; omega)]
    have e1 : min i k = k := by omega
    have e2 : min (i + 1) k = k := by omega
    simp only [w10S, e1, e2]
theorem rd_one {s : ShS} {k : Ky} {v : CW.Ver} (h : chn s.l k = [v]) (a : V4) : s.rdO k a = v.st.seen a ∧ (v.st.seen a = true → s.rd k a = v) := by
  unfold ShS.rdO ShS.rd CW.rdB CW.rdV
  rw [h, rdL_eq]
  cases hs : v.st.seen a <;> simp [hs]
abbrev w10T (k q : Nat) (st : Stp) (ws : List Wr) : ShS := ⟨k, List.replicate q (st, ws), ws.map (vof st), (⟨0, 0, 0, 0⟩ : V4).wth st.dc (max st.n ((⟨0, 0, 0, 0⟩ : V4).at st.dc))⟩
theorem w10_step {k i q : Nat} {st : Stp} {ws : List Wr} (hst : st.right = true) (hn : (ws.map wkey).Nodup) (hq : min i k = q + 1) : (w10S k i st ws).step = w10T k q st ws := by
  have h := fold_whole hst ws [] (by simpa using hn)
  simp only [List.map_nil, List.nil_append] at h
  unfold ShS.step
  simp only [w10S, hq, List.replicate_succ, w10T, h]
theorem w10_at {st : Stp} (hst : st.right = true) : ((⟨0, 0, 0, 0⟩ : V4).wth st.dc (max st.n ((⟨0, 0, 0, 0⟩ : V4).at st.dc))).at st.dc = st.n := by
  have h := n_bound hst
  have h0 : (⟨0, 0, 0, 0⟩ : V4).at st.dc = 0 := by
    unfold V4.at; simp
  rw [h0, Int.max_eq_left (by omega)]
  have hn := h.1
  unfold Stp.n V4.at at hn
  unfold V4.wth V4.at
  by_cases h1 : st.dc = 1
  · simp [h1]
  by_cases h2 : st.dc = 2
  · simp [h2]
  by_cases h3 : st.dc = 3
  · simp [h3]
  by_cases h4 : st.dc = 4
  · simp [h4]
  · simp [h1, h2, h3, h4] at hn
end Go.Proofs.Ytagjblkfgjcmnaa
