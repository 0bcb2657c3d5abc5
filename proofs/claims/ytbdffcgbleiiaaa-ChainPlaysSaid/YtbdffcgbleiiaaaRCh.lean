/-
  The reference's chain: what lies in memory; Read, Last. Conditions: none.
-/
import Derived.Test.YtbdffcgbleiiaaaChain6S
import Derived.Test.YtbdffcgbleiiaaaRefS
namespace Go.Proofs.Ytbdffcgbleiiaaa.CS
open Go.RowKit Go.Sx
set_option linter.unusedVariables false
set_option linter.unusedSimpArgs false

def RSh (l : List Ver) (nx : Nat) (hp : List (Nat × Blk)) : Prop :=
  (l = [] ∧ nx = 1 ∧ hp = [(0, .cells 29 [.v (.slice none 0 0)])]) ∨
  ∃ c, (l.length ≤ c ∧ 0 < l.length) ∧ nx = 2 ∧ hp = [(0, .cells 29 [.s 1 0 l.length c]), (1, .rows 56 6 l.length c fun j => (vrow l j).map .v)]
theorem rch_end0 {C : Cx} {fp : List Nat} {w w' : World} {fr : List (Nat × SV)} {hp : List (Nat × Blk)} {nx : Nat} {ρ : Env} {a : Act} {g : Nat} {l : List Ver} (hw : C.w0 = w) (hM : C.M = (· ∈ fp)) (hs : Sat C ⟨fr, hp, nx⟩ ρ a w') (hg : (ρ 0).blk = g) (hb : (ρ 0).base = 0)
    (h0 : hget hp 0 = some (.cells 29 [.v (.slice none 0 0)])) (hl : l = []) : ∃ fp', On g (RSh l) fp' w' ∧ Chg fp fp' w w' :=
  on_ends (Sh := RSh l) (g := g) hw hM hs id (nx' := 1) (hp' := [(0, .cells 29 [.v (.slice none 0 0)])]) ⟨⟨by omega, by simp [Blk.bl, CV.blL, CV.bl], h0⟩, trivial⟩ (by simp) rfl (.inl ⟨hl, rfl, rfl⟩) hg hb (by omega)
theorem rch_end1 {C : Cx} {fp : List Nat} {w w' : World} {fr : List (Nat × SV)} {hp : List (Nat × Blk)} {nx : Nat} {ρ : Env} {a : Act} {g : Nat} {l : List Ver} (hw : C.w0 = w) (hM : C.M = (· ∈ fp)) (hs : Sat C ⟨fr, hp, nx⟩ ρ a w') (hg : (ρ 0).blk = g) (hb : (ρ 0).base = 0) (hn0 : 0 < C.n0) (m c : Nat) {r : Nat → List CV} {n k : Nat}
    (h0 : hget hp 0 = some (.cells 29 [.s m 0 n c])) (hm : m ≠ 0) (h1 : hget hp m = some (.rows 56 6 k c r)) (hn : n = l.length) (hk : n ≤ k) (hr : ∀ j, j < n → (vrow l j).map .v = r j) (hc : n ≤ c ∧ 0 < n) : ∃ fp', On g (RSh l) fp' w' ∧ Chg fp fp' w w' := by
  subst hn
  obtain ⟨ρ', hs', hρ⟩ := ent_rows_le (C := C) (fr := fr) (nx := nx) (m' := l.length) (r' := fun j => (vrow l j).map .v) m h1 hk hr ρ a w' hs
  have h0' := hρ 0 hn0
  refine on_ends (Sh := RSh l) (g := g) hw hM hs' (fun k => if k = 1 then m else k) (nx' := 2) (hp' := [(0, .cells 29 [.s 1 0 l.length c]), (1, .rows 56 6 l.length c fun j => (vrow l j).map .v)]) ⟨⟨by omega, by simp [Blk.bl, CV.blL, CV.bl], ?_⟩, ⟨by omega, fun j _ => blL_v _ _, ?_⟩, trivial⟩ (by simp; omega) rfl (.inr ⟨c, hc, rfl, rfl⟩) ((congrArg Nm.blk h0').trans hg) ((congrArg Nm.base h0').trans hb) (by omega)
  · show hget _ 0 = _
    rw [hget_hset_ne m 0 _ (by omega), h0]; rfl
  · show hget _ m = _
    rw [hget_hset m _ hp _ h1]
    simp [Blk.rn, CV.rnL_eq, Function.comp_def, CV.rn]
theorem lastF_skip {f : Nat → Ver} {p : Ver → Bool} {k : Nat} : ∀ {n : Nat}, k ≤ n → (∀ q, k ≤ q → q < n → p (f q) = false) → lastF f p n = lastF f p k
  | 0, hk, _ => by have : k = 0 := by omega
                   rw [this]
  | n + 1, hk, h => by
    by_cases he : k = n + 1
    · rw [he]
    · rw [lastF, if_neg (by rw [h n (by omega) (by omega)]; simp), lastF_skip (by omega) fun q h1 h2 => h q h1 (by omega)]
theorem rd_at {l : List Ver} {p : Ver → Bool} {k : Nat} {x : Ver} (hx : l[k]? = some x) (hp : p x = true) (h : ∀ q : Nat, k < q → ∀ y : Ver, l[q]? = some y → p y = false) : rdL l p = some x := by
  have hk := (List.getElem?_eq_some_iff.1 hx).1
  have hf : ∀ (q : Nat) (y : Ver), l[q]? = some y → l.getD q ver0 = y := fun q y hy => by simp [List.getD_eq_getElem?_getD, hy]
  unfold rdL
  rw [lastF_skip (k := k + 1) (by omega) fun q h1 h2 => by
    have hq := List.getElem?_eq_getElem h2
    show p (l.getD q ver0) = false
    rw [hf _ _ hq]; exact h q (by omega) _ hq]
  rw [lastF]
  show (if p (l.getD k ver0) = true then some (l.getD k ver0) else _) = _
  rw [hf _ _ hx, if_pos hp]
theorem rd_no {l : List Ver} {p : Ver → Bool} (h : ∀ (q : Nat) (y : Ver), l[q]? = some y → p y = false) : rdL l p = none := by
  unfold rdL
  rw [lastF_skip (k := 0) (by omega) fun q h1 h2 => by
    have hq := List.getElem?_eq_getElem h2
    show p (l.getD q ver0) = false
    rw [show l.getD q ver0 = l[q] by simp [List.getD_eq_getElem?_getD, hq]]; exact h q _ hq]
  rfl
set_option maxHeartbeats 1000000 in
theorem rread_c (g : Nat) (l : List Ver) (hl : l.length ≤ 100000) (at' : V4) (fp : List Nat) (w : World) (h : On g (RSh l) fp w) : Calls Try.prog 21 #[gptr g, at'.v] w (TurnK g fp (.tuple #[(rdV l fun x => x.st.seen at').val, .bool (rdB l fun x => x.st.seen at')]) (RSh l) w) := by
  refine on_calls2 h 35 _ Try.func21 rfl Try.ntmps21 Try.results21 [.c (.p 0 0 0), sv4 at'.a at'.b at'.c at'.d] (by simp) (fun ρ' h1 h2 => by simp [SV.denL, SV.den, CV.den, CV.denL, gptr, h1, h2]) (fun ρ nx hp hsh hg hb hh => ?_)
  have hsh0 := hsh
  rcases hsh with ⟨hn, rfl, rfl⟩ | ⟨c, ⟨hc, hc0⟩, rfl, rfl⟩
  · subst hn
    simp only [go_sem, ↓reduceIte, Nat.reduceEqDiff, Nat.reduceLT, Nat.reduceLeDiff, Nat.reduceAdd, Nat.reduceMul, Nat.reduceSub, Nat.reduceDiv, Nat.reduceMod, Int.reduceToNat, Int.reduceLT, Int.reduceLE, Int.reduceAdd, Int.reduceSub, Int.reduceMul, Int.reduceEq, Int.reduceNeg, reduceCtorEq, or_false, false_or, decide_true, decide_false, Int.cast_ofNat_Int, Nat.zero_add, Nat.add_zero, Int.toNat_natCast, Option.isNone_none, Option.isNone_some, Bool.not_true, Bool.not_false, Bool.xor_true, Bool.xor_false, Bool.true_xor, Bool.false_xor, decide_true, decide_false, Bool.and_true, Bool.true_and, Bool.and_false, Bool.false_and, eq_self, ne_eq, not_false_eq_true, not_true_eq_false, true_and, and_true, and_self]
    refine sloop (fun _ : Unit => ⟨[(6, .c (ci (-1))), (4, .c (.p 2 0 0)), (0, .c (.p 0 0 0))], [(2, .cells 56 ver0.c), (0, .cells 29 [.v (.slice none 0 0)])], 3⟩) (fun _ => True) (fun _ => 0) () trivial (ent_drop ⟨rfl, rfl, rfl, trivial⟩ ⟨rfl, rfl, trivial⟩ (by simp)) (fun _ _ => ?_)
    simp (disch := omega) only [go_sem, ↓reduceIte, Nat.reduceEqDiff, Nat.reduceLT, Nat.reduceLeDiff, Nat.reduceAdd, Nat.reduceMul, Nat.reduceSub, Nat.reduceDiv, Nat.reduceMod, Int.reduceToNat, Int.reduceLT, Int.reduceLE, Int.reduceAdd, Int.reduceSub, Int.reduceMul, Int.reduceEq, Int.reduceNeg, reduceCtorEq, or_false, false_or, decide_true, decide_false, Int.cast_ofNat_Int, Nat.zero_add, Nat.add_zero, Int.toNat_natCast, Option.isNone_none, Option.isNone_some, Bool.not_true, Bool.not_false, Bool.xor_true, Bool.xor_false, Bool.true_xor, Bool.false_xor, decide_true, decide_false, Bool.and_true, Bool.true_and, Bool.and_false, Bool.false_and, eq_self, ne_eq, not_false_eq_true, not_true_eq_false, true_and, and_true, and_self, wrapI64, wrapu64, wrapu32, wrapu8, ltT, ltF, leT, leF, eqF, eqT, nltT, nleT, neqFn, ver0, Ver.c]
    refine fun ρ' a w' hs' hag => ?_
    exact ⟨rfl, on_same rfl rfl (hs'.sub (hp' := [(0, .cells 29 [.v (.slice none 0 0)])]) ⟨rfl, trivial⟩ (by simp)) hag hh rfl hsh0 hg hb⟩
  · simp only [go_sem, ↓reduceIte, Nat.reduceEqDiff, Nat.reduceLT, Nat.reduceLeDiff, Nat.reduceAdd, Nat.reduceMul, Nat.reduceSub, Nat.reduceDiv, Nat.reduceMod, Int.reduceToNat, Int.reduceLT, Int.reduceLE, Int.reduceAdd, Int.reduceSub, Int.reduceMul, Int.reduceEq, Int.reduceNeg, reduceCtorEq, or_false, false_or, decide_true, decide_false, Int.cast_ofNat_Int, Nat.zero_add, Nat.add_zero, Int.toNat_natCast, Option.isNone_none, Option.isNone_some, Bool.not_true, Bool.not_false, Bool.xor_true, Bool.xor_false, Bool.true_xor, Bool.false_xor, decide_true, decide_false, Bool.and_true, Bool.true_and, Bool.and_false, Bool.false_and, eq_self, ne_eq, not_false_eq_true, not_true_eq_false, true_and, and_true, and_self]
    refine sloop (fun j : Nat => ⟨[(6, .c (ci ((j : Int) - 1))), (4, .c (.p 3 0 0)), (0, .c (.p 0 0 0)), (3, .c (.p 2 0 0))], [(3, .cells 56 ver0.c), (2, .cells 45 [cu at'.a, cu at'.b, cu at'.c, cu at'.d]), (0, .cells 29 [.s 1 0 l.length c]), (1, .rows 56 6 l.length c fun j => (vrow l j).map .v)], 4⟩) (fun j => j ≤ l.length ∧ ∀ q : Nat, j ≤ q → ∀ y : Ver, l[q]? = some y → y.st.seen at' = false) (fun j => j) l.length ⟨Nat.le_refl _, fun q hq y hy => by
      have := (List.getElem?_eq_some_iff.1 hy).1
      omega⟩ (ent_drop ⟨(by first | rfl | (show SV.c (ci (IntKind.i64.wrap ((l.length : Int) - 1))) = _; rw [wrap_i64 _ (by omega) (by omega)])), rfl, rfl, rfl, trivial⟩ ⟨rfl, rfl, rfl, rfl, trivial⟩ (by simp)) (fun j hj => ?_)
    obtain ⟨hj, hno⟩ : j ≤ l.length ∧ ∀ q : Nat, j ≤ q → ∀ y : Ver, l[q]? = some y → y.st.seen at' = false := hj
    rcases j with _ | k
    · have hr := rd_no (l := l) (p := fun x => x.st.seen at') fun q y hy => hno q (Nat.zero_le _) y hy
      unfold rdV rdB
      rw [hr]
      simp (disch := omega) only [go_sem, ↓reduceIte, Nat.reduceEqDiff, Nat.reduceLT, Nat.reduceLeDiff, Nat.reduceAdd, Nat.reduceMul, Nat.reduceSub, Nat.reduceDiv, Nat.reduceMod, Int.reduceToNat, Int.reduceLT, Int.reduceLE, Int.reduceAdd, Int.reduceSub, Int.reduceMul, Int.reduceEq, Int.reduceNeg, reduceCtorEq, or_false, false_or, decide_true, decide_false, Int.cast_ofNat_Int, Nat.zero_add, Nat.add_zero, Int.toNat_natCast, Option.isNone_none, Option.isNone_some, Bool.not_true, Bool.not_false, Bool.xor_true, Bool.xor_false, Bool.true_xor, Bool.false_xor, decide_true, decide_false, Bool.and_true, Bool.true_and, Bool.and_false, Bool.false_and, eq_self, ne_eq, not_false_eq_true, not_true_eq_false, true_and, and_true, and_self, wrapI64, wrapu64, wrapu32, wrapu8, ltT, ltF, leT, leF, eqF, eqT, nltT, nleT, neqFn, ver0, Ver.c]
      refine fun ρ' a w' hs' hag => ?_
      exact ⟨rfl, on_same rfl rfl (hs'.sub (hp' := [(0, .cells 29 [.s 1 0 l.length c]), (1, .rows 56 6 l.length c fun j => (vrow l j).map .v)]) ⟨rfl, rfl, trivial⟩ (by simp)) hag hh rfl hsh0 hg hb⟩
    · obtain ⟨x, hx⟩ : ∃ x, l[k]? = some x := ⟨_, List.getElem?_eq_getElem (by omega)⟩
      have hrow := vrow_eq hx
      have hk1 : (((k + 1 : Nat) : Int) - 1) = (k : Int) := by omega
      simp (disch := omega) only [go_sem, ↓reduceIte, Nat.reduceEqDiff, Nat.reduceLT, Nat.reduceLeDiff, Nat.reduceAdd, Nat.reduceMul, Nat.reduceSub, Nat.reduceDiv, Nat.reduceMod, Int.reduceToNat, Int.reduceLT, Int.reduceLE, Int.reduceAdd, Int.reduceSub, Int.reduceMul, Int.reduceEq, Int.reduceNeg, reduceCtorEq, or_false, false_or, decide_true, decide_false, Int.cast_ofNat_Int, Nat.zero_add, Nat.add_zero, Int.toNat_natCast, Option.isNone_none, Option.isNone_some, Bool.not_true, Bool.not_false, Bool.xor_true, Bool.xor_false, Bool.true_xor, Bool.false_xor, decide_true, decide_false, Bool.and_true, Bool.true_and, Bool.and_false, Bool.false_and, eq_self, ne_eq, not_false_eq_true, not_true_eq_false, true_and, and_true, and_self, wrapI64, wrapu64, wrapu32, wrapu8, ltT, ltF, leT, leF, eqF, eqT, nltT, nleT, neqFn, hk1]
      refine sdraw [.t 0, .t 1, .t 2, .t 3, .t 4, .t 5, .t 6, .t 7, .t 8, .r 9] 10 [(0, _), (1, _), (2, _)] rfl (by kernel_rfl) ⟨rfl, rfl, rfl, trivial⟩ ?_
      simp (disch := omega) only [go_sem, ↓reduceIte, Nat.reduceEqDiff, Nat.reduceLT, Nat.reduceLeDiff, Nat.reduceAdd, Nat.reduceMul, Nat.reduceSub, Nat.reduceDiv, Nat.reduceMod, Int.reduceToNat, Int.reduceLT, Int.reduceLE, Int.reduceAdd, Int.reduceSub, Int.reduceMul, Int.reduceEq, Int.reduceNeg, reduceCtorEq, or_false, false_or, decide_true, decide_false, Int.cast_ofNat_Int, Nat.zero_add, Nat.add_zero, Int.toNat_natCast, Option.isNone_none, Option.isNone_some, Bool.not_true, Bool.not_false, Bool.xor_true, Bool.xor_false, Bool.true_xor, Bool.false_xor, decide_true, decide_false, Bool.and_true, Bool.true_and, Bool.and_false, Bool.false_and, eq_self, ne_eq, not_false_eq_true, not_true_eq_false, true_and, and_true, and_self, wrapI64, wrapu64, wrapu32, wrapu8, ltT, ltF, leT, leF, eqF, eqT, nltT, nleT, neqFn, hk1, hrow]
      refine rseen_s (x := x.st) (h := at') ?_
      cases hsn : x.st.seen at'
      · simp (disch := omega) only [go_sem, ↓reduceIte, Nat.reduceEqDiff, Nat.reduceLT, Nat.reduceLeDiff, Nat.reduceAdd, Nat.reduceMul, Nat.reduceSub, Nat.reduceDiv, Nat.reduceMod, Int.reduceToNat, Int.reduceLT, Int.reduceLE, Int.reduceAdd, Int.reduceSub, Int.reduceMul, Int.reduceEq, Int.reduceNeg, reduceCtorEq, or_false, false_or, decide_true, decide_false, Int.cast_ofNat_Int, Nat.zero_add, Nat.add_zero, Int.toNat_natCast, Option.isNone_none, Option.isNone_some, Bool.not_true, Bool.not_false, Bool.xor_true, Bool.xor_false, Bool.true_xor, Bool.false_xor, decide_true, decide_false, Bool.and_true, Bool.true_and, Bool.and_false, Bool.false_and, eq_self, ne_eq, not_false_eq_true, not_true_eq_false, true_and, and_true, and_self, wrapI64, wrapu64, wrapu32, wrapu8, ltT, ltF, leT, leF, eqF, eqT, nltT, nleT, neqFn, hk1]
        refine ⟨k, ⟨by omega, fun q hq y hy => ?_⟩, by omega, ent_drop ⟨rfl, rfl, rfl, rfl, trivial⟩ ⟨rfl, rfl, rfl, rfl, trivial⟩ (by simp)⟩
        rcases Nat.lt_or_ge k q with hkq | hkq
        · exact hno q hkq y hy
        · have : q = k := by omega
          rw [this, hx] at hy; injection hy with hy; rw [← hy]; exact hsn
      · have hr := rd_at (p := fun x => x.st.seen at') hx hsn fun q hq y hy => hno q hq y hy
        unfold rdV rdB
        rw [hr]
        simp (disch := omega) only [go_sem, ↓reduceIte, Nat.reduceEqDiff, Nat.reduceLT, Nat.reduceLeDiff, Nat.reduceAdd, Nat.reduceMul, Nat.reduceSub, Nat.reduceDiv, Nat.reduceMod, Int.reduceToNat, Int.reduceLT, Int.reduceLE, Int.reduceAdd, Int.reduceSub, Int.reduceMul, Int.reduceEq, Int.reduceNeg, reduceCtorEq, or_false, false_or, decide_true, decide_false, Int.cast_ofNat_Int, Nat.zero_add, Nat.add_zero, Int.toNat_natCast, Option.isNone_none, Option.isNone_some, Bool.not_true, Bool.not_false, Bool.xor_true, Bool.xor_false, Bool.true_xor, Bool.false_xor, decide_true, decide_false, Bool.and_true, Bool.true_and, Bool.and_false, Bool.false_and, eq_self, ne_eq, not_false_eq_true, not_true_eq_false, true_and, and_true, and_self, wrapI64, wrapu64, wrapu32, wrapu8, ltT, ltF, leT, leF, eqF, eqT, nltT, nleT, neqFn, hk1, hrow, ver0, Ver.c]
        refine fun ρ' a w' hs' hag => ?_
        exact ⟨rfl, on_same rfl rfl (hs'.sub (hp' := [(0, .cells 29 [.s 1 0 l.length c]), (1, .rows 56 6 l.length c fun j => (vrow l j).map .v)]) ⟨rfl, rfl, trivial⟩ (by simp)) hag hh rfl hsh0 hg hb⟩
set_option maxHeartbeats 1000000 in
theorem rlast_c (g : Nat) (l : List Ver) (hl : l.length ≤ 100000) (fp : List Nat) (w : World) (h : On g (RSh l) fp w) : Calls Try.prog 23 #[gptr g] w (TurnK g fp (.tuple #[(rdV l fun _ => true).val, .bool (rdB l fun _ => true)]) (RSh l) w) := by
  refine on_calls2 h 23 _ Try.func23 rfl Try.ntmps23 Try.results23 [.c (.p 0 0 0)] (by simp) (fun ρ' h1 h2 => by simp [SV.denL, SV.den, CV.den, CV.denL, gptr, h1, h2]) (fun ρ nx hp hsh hg hb hh => ?_)
  have hsh0 := hsh
  rcases hsh with ⟨hn, rfl, rfl⟩ | ⟨c, ⟨hc, hc0⟩, rfl, rfl⟩
  · subst hn
    simp (disch := omega) only [go_sem, ↓reduceIte, Nat.reduceEqDiff, Nat.reduceLT, Nat.reduceLeDiff, Nat.reduceAdd, Nat.reduceMul, Nat.reduceSub, Nat.reduceDiv, Nat.reduceMod, Int.reduceToNat, Int.reduceLT, Int.reduceLE, Int.reduceAdd, Int.reduceSub, Int.reduceMul, Int.reduceEq, Int.reduceNeg, reduceCtorEq, or_false, false_or, decide_true, decide_false, Int.cast_ofNat_Int, Nat.zero_add, Nat.add_zero, Int.toNat_natCast, Option.isNone_none, Option.isNone_some, Bool.not_true, Bool.not_false, Bool.xor_true, Bool.xor_false, Bool.true_xor, Bool.false_xor, decide_true, decide_false, Bool.and_true, Bool.true_and, Bool.and_false, Bool.false_and, eq_self, ne_eq, not_false_eq_true, not_true_eq_false, true_and, and_true, and_self, wrapI64, wrapu64, wrapu32, wrapu8, ltT, ltF, leT, leF, eqF, eqT, nltT, nleT, neqFn, ver0, Ver.c]
    refine fun ρ' a w' hs' hag => ?_
    exact ⟨rfl, on_same rfl rfl (hs'.sub (hp' := [(0, .cells 29 [.v (.slice none 0 0)])]) ⟨rfl, trivial⟩ (by simp)) hag hh rfl hsh0 hg hb⟩
  · obtain ⟨k, hk1, hk2⟩ : ∃ k : Nat, (l.length : Int) - 1 = k ∧ k + 1 = l.length := ⟨l.length - 1, by omega, by omega⟩
    obtain ⟨x, hx⟩ : ∃ x, l[k]? = some x := ⟨_, List.getElem?_eq_getElem (by omega)⟩
    have hrow := vrow_eq hx
    have hr := rd_at (p := fun _ => true) hx rfl fun q hq y hy => by
      have := (List.getElem?_eq_some_iff.1 hy).1
      omega
    unfold rdV rdB
    rw [hr]
    simp (disch := omega) only [go_sem, ↓reduceIte, Nat.reduceEqDiff, Nat.reduceLT, Nat.reduceLeDiff, Nat.reduceAdd, Nat.reduceMul, Nat.reduceSub, Nat.reduceDiv, Nat.reduceMod, Int.reduceToNat, Int.reduceLT, Int.reduceLE, Int.reduceAdd, Int.reduceSub, Int.reduceMul, Int.reduceEq, Int.reduceNeg, reduceCtorEq, or_false, false_or, decide_true, decide_false, Int.cast_ofNat_Int, Nat.zero_add, Nat.add_zero, Int.toNat_natCast, Option.isNone_none, Option.isNone_some, Bool.not_true, Bool.not_false, Bool.xor_true, Bool.xor_false, Bool.true_xor, Bool.false_xor, decide_true, decide_false, Bool.and_true, Bool.true_and, Bool.and_false, Bool.false_and, eq_self, ne_eq, not_false_eq_true, not_true_eq_false, true_and, and_true, and_self, wrapI64, wrapu64, wrapu32, wrapu8, ltT, ltF, leT, leF, eqF, eqT, nltT, nleT, neqFn]
    refine sdraw [.t 0, .t 1, .t 2, .t 3, .t 4, .t 5, .t 6, .t 7, .t 8, .t 9, .t 10, .t 11, .r 12, .t 13] 14 [(0, _), (1, _)] rfl (by kernel_rfl) ⟨rfl, rfl, trivial⟩ ?_
    simp (disch := omega) only [go_sem, ↓reduceIte, Nat.reduceEqDiff, Nat.reduceLT, Nat.reduceLeDiff, Nat.reduceAdd, Nat.reduceMul, Nat.reduceSub, Nat.reduceDiv, Nat.reduceMod, Int.reduceToNat, Int.reduceLT, Int.reduceLE, Int.reduceAdd, Int.reduceSub, Int.reduceMul, Int.reduceEq, Int.reduceNeg, reduceCtorEq, or_false, false_or, decide_true, decide_false, Int.cast_ofNat_Int, Nat.zero_add, Nat.add_zero, Int.toNat_natCast, Option.isNone_none, Option.isNone_some, Bool.not_true, Bool.not_false, Bool.xor_true, Bool.xor_false, Bool.true_xor, Bool.false_xor, decide_true, decide_false, Bool.and_true, Bool.true_and, Bool.and_false, Bool.false_and, eq_self, ne_eq, not_false_eq_true, not_true_eq_false, true_and, and_true, and_self, wrapI64, wrapu64, wrapu32, wrapu8, ltT, ltF, leT, leF, eqF, eqT, nltT, nleT, neqFn, hk1, hrow]
    refine fun ρ' a w' hs' hag => ?_
    exact ⟨rfl, on_same rfl rfl (hs'.sub (hp' := [(0, .cells 29 [.s 1 0 l.length c]), (1, .rows 56 6 l.length c fun j => (vrow l j).map .v)]) ⟨rfl, rfl, trivial⟩ (by simp)) hag hh rfl hsh0 hg hb⟩
end Go.Proofs.Ytbdffcgbleiiaaa.CS
