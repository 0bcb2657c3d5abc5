/-
  A chain of versions: what lies in memory; New, Len, Read, Last. Conditions: none.
-/
import Derived.Test.YtbdffcgbleiiaaaLastS
import Derived.Test.YtbdffcgbleiiaaaOrd
namespace Go.Proofs.Ytbdffcgbleiiaaa.CS
open Go.RowKit Go.Sx
set_option linter.unusedVariables false
set_option linter.unusedSimpArgs false

def vrow (l : List Ver) (j : Nat) : List Value := ((l[j]?).map Ver.l).getD []
theorem vrow_eq {l : List Ver} {j : Nat} {x : Ver} (h : l[j]? = some x) : (vrow l j).map CV.v = [cu x.st.v.a, cu x.st.v.b, cu x.st.v.c, cu x.st.v.d, ci x.st.dc, .v (Value.string x.x)] := by simp [vrow, h, Ver.l]
def CSh (l : List Ver) (nx : Nat) (hp : List (Nat × Blk)) : Prop :=
  (l = [] ∧ nx = 1 ∧ hp = [(0, .cells 113 [.v (.slice none 0 0)])]) ∨
  ∃ c, (l.length ≤ c ∧ 0 < c) ∧ nx = 2 ∧ hp = [(0, .cells 113 [.s 1 0 l.length c]), (1, .rows 52 6 l.length c fun j => (vrow l j).map .v)]
theorem ch_end0 {C : Cx} {fp : List Nat} {w w' : World} {fr : List (Nat × SV)} {hp : List (Nat × Blk)} {nx : Nat} {ρ : Env} {a : Act} {g : Nat} {l : List Ver} (hw : C.w0 = w) (hM : C.M = (· ∈ fp)) (hs : Sat C ⟨fr, hp, nx⟩ ρ a w') (hg : (ρ 0).blk = g) (hb : (ρ 0).base = 0)
    (h0 : hget hp 0 = some (.cells 113 [.v (.slice none 0 0)])) (hl : l = []) : ∃ fp', On g (CSh l) fp' w' ∧ Chg fp fp' w w' :=
  on_ends (Sh := CSh l) (g := g) hw hM hs id (nx' := 1) (hp' := [(0, .cells 113 [.v (.slice none 0 0)])]) ⟨⟨by omega, by simp [Blk.bl, CV.blL, CV.bl], h0⟩, trivial⟩ (by simp) rfl (.inl ⟨hl, rfl, rfl⟩) hg hb (by omega)
theorem hget_hset (m : Nat) (b : Blk) : ∀ (hp : List (Nat × Blk)) (b' : Blk), hget hp m = some b' → hget (hset hp m b) m = some b
  | [], _, h => by simp [hget] at h
  | (q, v) :: y, b', h => by
    rw [hget_cons] at h
    rw [hset_cons]
    by_cases hq : q = m
    · rw [if_pos hq, hget_cons, if_pos hq]
    · rw [if_neg hq, hget_cons, if_neg hq]; rw [if_neg hq] at h; exact hget_hset m b y b' h
theorem hget_hset_ne (m k : Nat) (b : Blk) (hk : k ≠ m) : ∀ (hp : List (Nat × Blk)), hget (hset hp m b) k = hget hp k
  | [] => rfl
  | (q, v) :: y => by
    rw [hset_cons]
    by_cases hq : q = m
    · rw [if_pos hq, hget_cons, hget_cons, if_neg (by omega), if_neg (by omega)]
    · rw [if_neg hq, hget_cons, hget_cons, hget_hset_ne m k b hk y]
/-- Of a block of rows fewer are told, or told in other words. -/
theorem ent_rows_le {C : Cx} {fr : List (Nat × SV)} {hp : List (Nat × Blk)} {nx : Nat} (n : Nat) {ty e m c m' : Nat} {r r' : Nat → List CV} (hg : hget hp n = some (.rows ty e m c r)) (hm : m' ≤ m) (h : ∀ i, i < m' → r' i = r i) : Ent C ⟨fr, hp, nx⟩ ⟨fr, hset hp n (.rows ty e m' c r'), nx⟩ := fun ρ a w hs => by
  refine ⟨ρ, ?_, fun _ _ => rfl⟩
  refine hs.set hg hs.now.keeps (Nat.le_refl _) (fun _ _ _ _ => rfl) fun ρ' hρ => ⟨rfl, ?_⟩
  obtain ⟨h1, h2, ⟨arr, h3, h4, h5⟩, h6⟩ := (hs ρ' hρ).hp _ _ (mem_hget hg)
  exact ⟨h1, h2, ⟨arr, h3, h4, fun i hi => by rw [h i hi]; exact h5 i (by omega)⟩, h6⟩
theorem ch_end1 {C : Cx} {fp : List Nat} {w w' : World} {fr : List (Nat × SV)} {hp : List (Nat × Blk)} {nx : Nat} {ρ : Env} {a : Act} {g : Nat} {l : List Ver} (hw : C.w0 = w) (hM : C.M = (· ∈ fp)) (hs : Sat C ⟨fr, hp, nx⟩ ρ a w') (hg : (ρ 0).blk = g) (hb : (ρ 0).base = 0) (hn0 : 0 < C.n0) (m c : Nat) {r : Nat → List CV} {n k : Nat}
    (h0 : hget hp 0 = some (.cells 113 [.s m 0 n c])) (hm : m ≠ 0) (h1 : hget hp m = some (.rows 52 6 k c r)) (hn : n = l.length) (hk : n ≤ k) (hr : ∀ j, j < n → (vrow l j).map .v = r j) (hc : n ≤ c ∧ 0 < c) : ∃ fp', On g (CSh l) fp' w' ∧ Chg fp fp' w w' := by
  subst hn
  obtain ⟨ρ', hs', hρ⟩ := ent_rows_le (C := C) (fr := fr) (nx := nx) (m' := l.length) (r' := fun j => (vrow l j).map .v) m h1 hk hr ρ a w' hs
  have h0' := hρ 0 hn0
  refine on_ends (Sh := CSh l) (g := g) hw hM hs' (fun k => if k = 1 then m else k) (nx' := 2) (hp' := [(0, .cells 113 [.s 1 0 l.length c]), (1, .rows 52 6 l.length c fun j => (vrow l j).map .v)]) ⟨⟨by omega, by simp [Blk.bl, CV.blL, CV.bl], ?_⟩, ⟨by omega, fun j _ => blL_v _ _, ?_⟩, trivial⟩ (by simp; omega) rfl (.inr ⟨c, hc, rfl, rfl⟩) ((congrArg Nm.blk h0').trans hg) ((congrArg Nm.base h0').trans hb) (by omega)
  · show hget _ 0 = _
    rw [hget_hset_ne m 0 _ (by omega), h0]; rfl
  · show hget _ m = _
    rw [hget_hset m _ hp _ h1]
    simp [Blk.rn, CV.rnL_eq, Function.comp_def, CV.rn]

theorem cnew_c (w : World) : Calls Try.prog 12 #[] w fun e w' => ∃ g fp', e = .returned (gptr g) ∧ On g (CSh []) fp' w' ∧ Chg [] fp' w w' := by
  refine calls_pure 3 _ Try.func12 rfl Try.ntmps12 Try.results12 [] (by simp) (fun _ => rfl) ?_
  simp only [go_sem, ↓reduceIte, Nat.reduceEqDiff, Nat.reduceLT, Nat.reduceLeDiff, Nat.reduceAdd, Nat.reduceMul, Nat.reduceSub, Nat.reduceDiv, Nat.reduceMod, Int.reduceToNat, Int.reduceLT, Int.reduceLE, Int.reduceAdd, Int.reduceSub, Int.reduceMul, Int.reduceEq, Int.reduceNeg, reduceCtorEq, or_false, false_or, decide_true, decide_false, Int.cast_ofNat_Int, Nat.zero_add, Nat.add_zero, Int.toNat_natCast, Option.isNone_none, Option.isNone_some, Bool.not_true, Bool.not_false, Bool.xor_true, Bool.xor_false, Bool.true_xor, Bool.false_xor, decide_true, decide_false, Bool.and_true, Bool.true_and, Bool.and_false, Bool.false_and, eq_self, ne_eq, not_false_eq_true, not_true_eq_false, true_and, and_true, and_self]
  refine fun ρ a w' hs _ => ?_
  have hb := (hs.now.hp 0 _ (List.mem_cons_self ..)).1
  obtain ⟨fp', hon, hch⟩ := ch_end0 (fp := []) (g := (ρ 0).blk) (l := []) rfl (by funext k; simp) hs rfl hb rfl rfl
  exact ⟨(ρ 0).blk, fp', by simp [SV.den, CV.den, gptr, hb], hon, hch⟩
theorem clen_c (g : Nat) (l : List Ver) (fp : List Nat) (w : World) (h : On g (CSh l) fp w) : Calls Try.prog 25 #[gptr g] w (TurnK g fp (.int .i64 l.length) (CSh l) w) := by
  refine on_calls2 h 8 _ Try.func25 rfl Try.ntmps25 Try.results25 [.c (.p 0 0 0)] (by simp) (fun ρ' h1 h2 => by simp [SV.denL, SV.den, CV.den, gptr, h1, h2]) (fun ρ nx hp hsh hg hb hh => ?_)
  rcases hsh with ⟨hn, rfl, rfl⟩ | ⟨c, hc, rfl, rfl⟩
  · simp only [go_sem, ↓reduceIte, Nat.reduceEqDiff, Nat.reduceLT, Nat.reduceLeDiff, Nat.reduceAdd, Nat.reduceMul, Nat.reduceSub, Nat.reduceDiv, Nat.reduceMod, Int.reduceToNat, Int.reduceLT, Int.reduceLE, Int.reduceAdd, Int.reduceSub, Int.reduceMul, Int.reduceEq, Int.reduceNeg, reduceCtorEq, or_false, false_or, decide_true, decide_false, Int.cast_ofNat_Int, Nat.zero_add, Nat.add_zero, Int.toNat_natCast, Option.isNone_none, Option.isNone_some, Bool.not_true, Bool.not_false, Bool.xor_true, Bool.xor_false, Bool.true_xor, Bool.false_xor, decide_true, decide_false, Bool.and_true, Bool.true_and, Bool.and_false, Bool.false_and, eq_self, ne_eq, not_false_eq_true, not_true_eq_false, true_and, and_true, and_self]
    refine fun ρ' a w' hs' hag => ?_
    exact ⟨by rw [hn]; rfl, on_same rfl rfl hs' hag hh rfl (.inl ⟨hn, rfl, rfl⟩) hg hb⟩
  · simp only [go_sem, ↓reduceIte, Nat.reduceEqDiff, Nat.reduceLT, Nat.reduceLeDiff, Nat.reduceAdd, Nat.reduceMul, Nat.reduceSub, Nat.reduceDiv, Nat.reduceMod, Int.reduceToNat, Int.reduceLT, Int.reduceLE, Int.reduceAdd, Int.reduceSub, Int.reduceMul, Int.reduceEq, Int.reduceNeg, reduceCtorEq, or_false, false_or, decide_true, decide_false, Int.cast_ofNat_Int, Nat.zero_add, Nat.add_zero, Int.toNat_natCast, Option.isNone_none, Option.isNone_some, Bool.not_true, Bool.not_false, Bool.xor_true, Bool.xor_false, Bool.true_xor, Bool.false_xor, decide_true, decide_false, Bool.and_true, Bool.true_and, Bool.and_false, Bool.false_and, eq_self, ne_eq, not_false_eq_true, not_true_eq_false, true_and, and_true, and_self]
    refine fun ρ' a w' hs' hag => ?_
    exact ⟨rfl, on_same rfl rfl hs' hag hh rfl (.inr ⟨c, hc, rfl, rfl⟩) hg hb⟩

/-- The closures: what each answers of a version. -/
theorem read1_c (W : World) (B : Nat) (at' : V4) (x : Ver) (hB : ImmAt W B 0 4 1 fun _ => [vu at'.a, vu at'.b, vu at'.c, vu at'.d]) :
    Calls Try.prog 61 #[x.val, .pointer (some ⟨B, 0, none⟩)] W fun e W' => e = .returned (.bool (x.st.seen at')) ∧ Below W.heap.size W W' := by
  refine calls_imm [⟨B, 0, 4, 1, _⟩] (by simp; exact hB) 8 _ Try.func61 rfl Try.ntmps61 Try.results61 [.agg x.c, .c (.p 0 0 0)] (by simp) (fun ρ h => by
    have h0 := h 0 (by simp)
    simp [immN, ImmD.nm] at h0
    simp [SV.denL, SV.den, CV.den, CV.denL, h0, Ver.val, Ver.l, Ver.c]) ?_
  simp only [immL, List.length_cons, List.length_nil, Nat.zero_add, Nat.reduceAdd, List.map_cons, List.map_nil, Ver.c]
  simp only [go_sem, ↓reduceIte, Nat.reduceEqDiff, Nat.reduceLT, Nat.reduceLeDiff, Nat.reduceAdd, Nat.reduceMul, Nat.reduceSub, Nat.reduceDiv, Nat.reduceMod, Int.reduceToNat, Int.reduceLT, Int.reduceLE, Int.reduceAdd, Int.reduceSub, Int.reduceMul, Int.reduceEq, Int.reduceNeg, reduceCtorEq, or_false, false_or, decide_true, decide_false, Int.cast_ofNat_Int, Nat.zero_add, Nat.add_zero, Int.toNat_natCast, Option.isNone_none, Option.isNone_some, Bool.not_true, Bool.not_false, Bool.xor_true, Bool.xor_false, Bool.true_xor, Bool.false_xor, decide_true, decide_false, Bool.and_true, Bool.true_and, Bool.and_false, Bool.false_and, eq_self, ne_eq, not_false_eq_true, not_true_eq_false, true_and, and_true, and_self]
  refine seen_s ?_
  simp only [go_sem, ↓reduceIte, Nat.reduceEqDiff, Nat.reduceLT, Nat.reduceLeDiff, Nat.reduceAdd, Nat.reduceMul, Nat.reduceSub, Nat.reduceDiv, Nat.reduceMod, Int.reduceToNat, Int.reduceLT, Int.reduceLE, Int.reduceAdd, Int.reduceSub, Int.reduceMul, Int.reduceEq, Int.reduceNeg, reduceCtorEq, or_false, false_or, decide_true, decide_false, Int.cast_ofNat_Int, Nat.zero_add, Nat.add_zero, Int.toNat_natCast, Option.isNone_none, Option.isNone_some, Bool.not_true, Bool.not_false, Bool.xor_true, Bool.xor_false, Bool.true_xor, Bool.false_xor, decide_true, decide_false, Bool.and_true, Bool.true_and, Bool.and_false, Bool.false_and, eq_self, ne_eq, not_false_eq_true, not_true_eq_false, true_and, and_true, and_self]
  exact fun ρ a w hs _ => ⟨rfl, hs.grown⟩
theorem last1_c (W : World) (x : Ver) : Calls Try.prog 62 #[x.val] W fun e W' => e = .returned (.bool true) ∧ Below W.heap.size W W' := by
  refine calls_pure 3 _ Try.func62 rfl Try.ntmps62 Try.results62 [.agg x.c] (by simp) (fun _ => rfl) ?_
  simp only [Ver.c]
  simp only [go_sem, ↓reduceIte, Nat.reduceEqDiff, Nat.reduceLT, Nat.reduceLeDiff, Nat.reduceAdd, Nat.reduceMul, Nat.reduceSub, Nat.reduceDiv, Nat.reduceMod, Int.reduceToNat, Int.reduceLT, Int.reduceLE, Int.reduceAdd, Int.reduceSub, Int.reduceMul, Int.reduceEq, Int.reduceNeg, reduceCtorEq, or_false, false_or, decide_true, decide_false, Int.cast_ofNat_Int, Nat.zero_add, Nat.add_zero, Int.toNat_natCast, Option.isNone_none, Option.isNone_some, Bool.not_true, Bool.not_false, Bool.xor_true, Bool.xor_false, Bool.true_xor, Bool.false_xor, decide_true, decide_false, Bool.and_true, Bool.true_and, Bool.and_false, Bool.false_and, eq_self, ne_eq, not_false_eq_true, not_true_eq_false, true_and, and_true, and_self]
  exact fun ρ a w hs _ => ⟨rfl, hs.grown⟩
theorem add1_c (W : World) (x : Ver) (s : Stp) : Calls Try.prog 56 #[x.val, s.val] W fun e W' => e = .returned (.int .i64 (x.st.ord s)) ∧ Below W.heap.size W W' := by
  refine calls_pure 9 _ Try.func56 rfl Try.ntmps56 Try.results56 [.agg x.c, sst s.v.a s.v.b s.v.c s.v.d s.dc] (by simp) (fun _ => rfl) ?_
  simp only [Ver.c]
  simp only [go_sem, ↓reduceIte, Nat.reduceEqDiff, Nat.reduceLT, Nat.reduceLeDiff, Nat.reduceAdd, Nat.reduceMul, Nat.reduceSub, Nat.reduceDiv, Nat.reduceMod, Int.reduceToNat, Int.reduceLT, Int.reduceLE, Int.reduceAdd, Int.reduceSub, Int.reduceMul, Int.reduceEq, Int.reduceNeg, reduceCtorEq, or_false, false_or, decide_true, decide_false, Int.cast_ofNat_Int, Nat.zero_add, Nat.add_zero, Int.toNat_natCast, Option.isNone_none, Option.isNone_some, Bool.not_true, Bool.not_false, Bool.xor_true, Bool.xor_false, Bool.true_xor, Bool.false_xor, decide_true, decide_false, Bool.and_true, Bool.true_and, Bool.and_false, Bool.false_and, eq_self, ne_eq, not_false_eq_true, not_true_eq_false, true_and, and_true, and_self]
  refine ord_s ?_
  simp only [go_sem, ↓reduceIte, Nat.reduceEqDiff, Nat.reduceLT, Nat.reduceLeDiff, Nat.reduceAdd, Nat.reduceMul, Nat.reduceSub, Nat.reduceDiv, Nat.reduceMod, Int.reduceToNat, Int.reduceLT, Int.reduceLE, Int.reduceAdd, Int.reduceSub, Int.reduceMul, Int.reduceEq, Int.reduceNeg, reduceCtorEq, or_false, false_or, decide_true, decide_false, Int.cast_ofNat_Int, Nat.zero_add, Nat.add_zero, Int.toNat_natCast, Option.isNone_none, Option.isNone_some, Bool.not_true, Bool.not_false, Bool.xor_true, Bool.xor_false, Bool.true_xor, Bool.false_xor, decide_true, decide_false, Bool.and_true, Bool.true_and, Bool.and_false, Bool.false_and, eq_self, ne_eq, not_false_eq_true, not_true_eq_false, true_and, and_true, and_self]
  exact fun ρ a w hs _ => ⟨rfl, hs.grown⟩
theorem prune1_c (W : World) (B1 B2 : Nat) (h : V4) (best x : Ver) (i1 : ImmAt W B1 0 4 1 fun _ => [vu h.a, vu h.b, vu h.c, vu h.d]) (i2 : ImmAt W B2 0 6 1 fun _ => best.l) :
    Calls Try.prog 53 #[x.val, .pointer (some ⟨B1, 0, none⟩), .pointer (some ⟨B2, 0, none⟩)] W fun e W' => e = .returned (.bool (x.st.seen h && decide (x.st ≠ best.st))) ∧ Below W.heap.size W W' := by
  refine calls_imm [⟨B1, 0, 4, 1, _⟩, ⟨B2, 0, 6, 1, _⟩] (by simp; exact ⟨i1, i2⟩) 16 _ Try.func53 rfl Try.ntmps53 Try.results53 [.agg x.c, .c (.p 0 0 0), .c (.p 1 0 0)] (by simp) (fun ρ hh => by
    have h0 := hh 0 (by simp)
    have h1 := hh 1 (by simp)
    simp [immN, ImmD.nm] at h0 h1
    simp [SV.denL, SV.den, CV.den, CV.denL, h0, h1, Ver.val, Ver.l, Ver.c]) ?_
  simp only [immL, List.length_cons, List.length_nil, Nat.zero_add, Nat.reduceAdd, List.map_cons, List.map_nil, Ver.c, Ver.l]
  simp only [go_sem, ↓reduceIte, Nat.reduceEqDiff, Nat.reduceLT, Nat.reduceLeDiff, Nat.reduceAdd, Nat.reduceMul, Nat.reduceSub, Nat.reduceDiv, Nat.reduceMod, Int.reduceToNat, Int.reduceLT, Int.reduceLE, Int.reduceAdd, Int.reduceSub, Int.reduceMul, Int.reduceEq, Int.reduceNeg, reduceCtorEq, or_false, false_or, decide_true, decide_false, Int.cast_ofNat_Int, Nat.zero_add, Nat.add_zero, Int.toNat_natCast, Option.isNone_none, Option.isNone_some, Bool.not_true, Bool.not_false, Bool.xor_true, Bool.xor_false, Bool.true_xor, Bool.false_xor, decide_true, decide_false, Bool.and_true, Bool.true_and, Bool.and_false, Bool.false_and, eq_self, ne_eq, not_false_eq_true, not_true_eq_false, true_and, and_true, and_self]
  refine seen_s ?_
  cases hsn : Stp.seen ⟨⟨x.st.v.a, x.st.v.b, x.st.v.c, x.st.v.d⟩, x.st.dc⟩ h
  · simp only [go_sem, ↓reduceIte, Nat.reduceEqDiff, Nat.reduceLT, Nat.reduceLeDiff, Nat.reduceAdd, Nat.reduceMul, Nat.reduceSub, Nat.reduceDiv, Nat.reduceMod, Int.reduceToNat, Int.reduceLT, Int.reduceLE, Int.reduceAdd, Int.reduceSub, Int.reduceMul, Int.reduceEq, Int.reduceNeg, reduceCtorEq, or_false, false_or, decide_true, decide_false, Int.cast_ofNat_Int, Nat.zero_add, Nat.add_zero, Int.toNat_natCast, Option.isNone_none, Option.isNone_some, Bool.not_true, Bool.not_false, Bool.xor_true, Bool.xor_false, Bool.true_xor, Bool.false_xor, decide_true, decide_false, Bool.and_true, Bool.true_and, Bool.and_false, Bool.false_and, eq_self, ne_eq, not_false_eq_true, not_true_eq_false, true_and, and_true, and_self]
    exact fun ρ a w hs _ => ⟨rfl, hs.grown⟩
  · have e := stp_dec x.st best.st
    simp only [go_sem, ↓reduceIte, Nat.reduceEqDiff, Nat.reduceLT, Nat.reduceLeDiff, Nat.reduceAdd, Nat.reduceMul, Nat.reduceSub, Nat.reduceDiv, Nat.reduceMod, Int.reduceToNat, Int.reduceLT, Int.reduceLE, Int.reduceAdd, Int.reduceSub, Int.reduceMul, Int.reduceEq, Int.reduceNeg, reduceCtorEq, or_false, false_or, decide_true, decide_false, Int.cast_ofNat_Int, Nat.zero_add, Nat.add_zero, Int.toNat_natCast, Option.isNone_none, Option.isNone_some, Bool.not_true, Bool.not_false, Bool.xor_true, Bool.xor_false, Bool.true_xor, Bool.false_xor, decide_true, decide_false, Bool.and_true, Bool.true_and, Bool.and_false, Bool.false_and, eq_self, ne_eq, not_false_eq_true, not_true_eq_false, true_and, and_true, and_self, e]
    exact fun ρ a w hs _ => ⟨by simp [SV.den, CV.den], hs.grown⟩
/-- The last of a list of which something is so. -/
def rdL (l : List Ver) (p : Ver → Bool) : Option Ver := lastF (fun j => l.getD j ver0) p l.length
def Ver.s (v : Ver) : SV := .agg v.c
theorem last_s {C : Cx} {fr : List (Nat × SV)} {hp : List (Nat × Blk)} {nx : Nat} {d : Option Tmp} {K : St → Prop} (l : List Ver) (hl : l.length ≤ 9223372036854775807)
    (h0 : (hget hp 0 = some (.cells 113 [.v (.slice none 0 0)]) ∧ l = []) ∨ ∃ c m, hget hp 0 = some (.cells 113 [.s 1 0 l.length c]) ∧ hget hp 1 = some (.rows 52 6 l.length m fun j => (vrow l j).map .v))
    (fis : Nat) (caps : List CV) (p : Ver → Bool) (hcf : ∀ (v : Array Value) w, (callFunc fis v).run Try.prog w = .ok (.enter fis v) w)
    (hp1 : ∀ ρ w a, Sat C ⟨fr, hp, nx⟩ ρ a w → ∀ (x : Ver) (W : World), Below w.heap.size w W → Calls Try.prog fis (#[x.val] ++ (CV.denL ρ caps).toArray) W fun e W' => e = .returned (.bool (p x)) ∧ Below W.heap.size W W')
    (hK : dOk C.N d ∧ kput K ⟨fr, hp, nx⟩ d (.tup [((rdL l p).getD ver0).s, .c (.v (.bool (rdL l p).isSome))])) : SCall Try.prog C 60 [.c (.p 0 0 0), .c (.fn fis caps)] d K ⟨fr, hp, nx⟩ := by
  refine scall_keep (.tup [((rdL l p).getD ver0).s, .c (.v (.bool (rdL l p).isSome))]) Try.call60 (fun ρ w a hs => ?_) rfl (fun ρ ρ' _ => ?_) hK
  · have hp1' := hp1 ρ w a hs
    have e0 : (SV.tup [((rdL l p).getD ver0).s, .c (.v (.bool (rdL l p).isSome))]).den ρ = .tuple #[((rdL l p).getD ver0).val, .bool (rdL l p).isSome] := by
      simp [SV.den, SV.denL, CV.den, CV.denL, Ver.s, Ver.c, Ver.val, Ver.l]
    rw [e0]
    rcases h0 with ⟨g0, rfl⟩ | ⟨c, m, g0, g1⟩
    · obtain ⟨b0, b1, _, b3⟩ := hs.now.hp _ _ (mem_hget g0)
      have := last_c (ρ 0).blk (.slice none 0 0) 0 (fun j => ([] : List Ver).getD j ver0) (by omega) fis (CV.denL ρ caps).toArray p w (by simp [World.cell?, b1, CV.den]) (lt_of_heap b1) (.inl ⟨rfl, rfl⟩) hcf hp1'
      simpa [SV.denL, SV.den, CV.den, b0, rdL] using this
    · obtain ⟨b0, b1, _, b3⟩ := hs.now.hp _ _ (mem_hget g0)
      obtain ⟨k0, k1, ⟨arr, k2, k3, k4⟩, _⟩ := hs.now.hp _ _ (mem_hget g1)
      have := last_c (ρ 0).blk (.slice (some ⟨(ρ 1).blk, 0, none⟩) l.length c) l.length (fun j => l.getD j ver0) hl fis (CV.denL ρ caps).toArray p w (by simp [World.cell?, b1, CV.den, k0]) (lt_of_heap b1)
        (.inr ⟨(ρ 1).blk, c, rfl, lt_of_heap k2, fun j hj q hq => by
          have := (k4 j hj).2 q hq
          rw [← List.getElem?_map, map_v] at this
          simp only [World.cell?, k2]
          have hv : vrow l j = (l.getD j ver0).l := by simp [vrow, List.getD_eq_getElem?_getD, List.getElem?_eq_getElem hj]
          rw [hv] at this
          rw [← this]; simp⟩) hcf hp1'
      simpa [SV.denL, SV.den, CV.den, b0, rdL] using this
  · simp [SV.den, SV.denL, CV.den, CV.denL, Ver.s, Ver.c]
theorem imm_box {C : Cx} {ρ : Env} {w W : World} {n ty : Nat} {cs : List CV} (h : (Blk.cells ty cs).holds C ρ n w) (hW : Below w.heap.size w W) (vs : List Value) (hv : cs.map (CV.den ρ) = vs) : (ρ n).base = 0 ∧ ImmAt W (ρ n).blk 0 vs.length 1 fun _ => vs := by
  obtain ⟨h0, h1, h2, h3⟩ := h
  have hlt := lt_of_heap h1
  have hh : W.heap[(ρ n).blk]? = some (.cells vs.toArray ty (0, 0)) := by rw [hW.block _ hlt, h1, hv]
  refine ⟨h0, ⟨fun _ => lt_of_heap hh, fun i hi => rfl, fun i hi u hu => ?_⟩⟩
  have : i = 0 := by omega
  subst this
  simp [World.cell?, hh]
theorem cread_c (g : Nat) (l : List Ver) (hl : l.length ≤ 1000000) (at' : V4) (fp : List Nat) (w : World) (h : On g (CSh l) fp w) : Calls Try.prog 20 #[gptr g, at'.v] w (TurnK g fp (.tuple #[((rdL l fun x => x.st.seen at').getD ver0).val, .bool (rdL l fun x => x.st.seen at').isSome]) (CSh l) w) := by
  refine on_calls2 h 11 _ Try.func20 rfl Try.ntmps20 Try.results20 [.c (.p 0 0 0), sv4 at'.a at'.b at'.c at'.d] (by simp) (fun ρ' h1 h2 => by simp [SV.denL, SV.den, CV.den, CV.denL, gptr, h1, h2]) (fun ρ nx hp hsh hg hb hh => ?_)
  have hsh0 := hsh
  rcases hsh with ⟨hn, rfl, rfl⟩ | ⟨c, hc, rfl, rfl⟩
  all_goals
    simp only [go_sem, ↓reduceIte, Nat.reduceEqDiff, Nat.reduceLT, Nat.reduceLeDiff, Nat.reduceAdd, Nat.reduceMul, Nat.reduceSub, Nat.reduceDiv, Nat.reduceMod, Int.reduceToNat, Int.reduceLT, Int.reduceLE, Int.reduceAdd, Int.reduceSub, Int.reduceMul, Int.reduceEq, Int.reduceNeg, reduceCtorEq, or_false, false_or, decide_true, decide_false, Int.cast_ofNat_Int, Nat.zero_add, Nat.add_zero, Int.toNat_natCast, Option.isNone_none, Option.isNone_some, Bool.not_true, Bool.not_false, Bool.xor_true, Bool.xor_false, Bool.true_xor, Bool.false_xor, decide_true, decide_false, Bool.and_true, Bool.true_and, Bool.and_false, Bool.false_and, eq_self, ne_eq, not_false_eq_true, not_true_eq_false, true_and, and_true, and_self]
    first
      | refine last_s l (by omega) (.inl ⟨rfl, hn⟩) 61 _ (fun x => x.st.seen at') Try.call61 (fun ρ w a hs x W hW => ?_) ?_
      | refine last_s l (by omega) (.inr ⟨_, _, rfl, rfl⟩) 61 _ (fun x => x.st.seen at') Try.call61 (fun ρ w a hs x W hW => ?_) ?_
    · obtain ⟨k0, k1⟩ := imm_box (hs.now.hp _ _ (List.mem_cons_of_mem _ (List.mem_cons_self ..))) hW [vu at'.a, vu at'.b, vu at'.c, vu at'.d] rfl
      have := read1_c W _ at' x k1
      simpa [CV.denL, CV.den, k0] using this
    · simp only [go_sem, ↓reduceIte, Nat.reduceEqDiff, Nat.reduceLT, Nat.reduceLeDiff, Nat.reduceAdd, Nat.reduceMul, Nat.reduceSub, Nat.reduceDiv, Nat.reduceMod, Int.reduceToNat, Int.reduceLT, Int.reduceLE, Int.reduceAdd, Int.reduceSub, Int.reduceMul, Int.reduceEq, Int.reduceNeg, reduceCtorEq, or_false, false_or, decide_true, decide_false, Int.cast_ofNat_Int, Nat.zero_add, Nat.add_zero, Int.toNat_natCast, Option.isNone_none, Option.isNone_some, Bool.not_true, Bool.not_false, Bool.xor_true, Bool.xor_false, Bool.true_xor, Bool.false_xor, decide_true, decide_false, Bool.and_true, Bool.true_and, Bool.and_false, Bool.false_and, eq_self, ne_eq, not_false_eq_true, not_true_eq_false, true_and, and_true, and_self, Ver.s, Ver.c]
      refine fun ρ' a w' hs' hag => ?_
      exact ⟨by simp [SV.den, SV.denL, CV.den, CV.denL, Ver.val, Ver.l], (by first | exact on_same rfl rfl (hs'.sub (hp' := [(0, .cells 113 [.v (.slice none 0 0)])]) ⟨rfl, trivial⟩ (by simp)) hag hh rfl hsh0 hg hb | exact on_same rfl rfl (hs'.sub (hp' := [(0, .cells 113 [.s 1 0 l.length c]), (1, .rows 52 6 l.length c fun j => (vrow l j).map .v)]) ⟨rfl, rfl, trivial⟩ (by simp)) hag hh rfl hsh0 hg hb)⟩
theorem clast_c (g : Nat) (l : List Ver) (hl : l.length ≤ 1000000) (fp : List Nat) (w : World) (h : On g (CSh l) fp w) : Calls Try.prog 22 #[gptr g] w (TurnK g fp (.tuple #[((rdL l fun _ => true).getD ver0).val, .bool (rdL l fun _ => true).isSome]) (CSh l) w) := by
  refine on_calls2 h 8 _ Try.func22 rfl Try.ntmps22 Try.results22 [.c (.p 0 0 0)] (by simp) (fun ρ' h1 h2 => by simp [SV.denL, SV.den, CV.den, CV.denL, gptr, h1, h2]) (fun ρ nx hp hsh hg hb hh => ?_)
  have hsh0 := hsh
  rcases hsh with ⟨hn, rfl, rfl⟩ | ⟨c, hc, rfl, rfl⟩
  all_goals
    simp only [go_sem, ↓reduceIte, Nat.reduceEqDiff, Nat.reduceLT, Nat.reduceLeDiff, Nat.reduceAdd, Nat.reduceMul, Nat.reduceSub, Nat.reduceDiv, Nat.reduceMod, Int.reduceToNat, Int.reduceLT, Int.reduceLE, Int.reduceAdd, Int.reduceSub, Int.reduceMul, Int.reduceEq, Int.reduceNeg, reduceCtorEq, or_false, false_or, decide_true, decide_false, Int.cast_ofNat_Int, Nat.zero_add, Nat.add_zero, Int.toNat_natCast, Option.isNone_none, Option.isNone_some, Bool.not_true, Bool.not_false, Bool.xor_true, Bool.xor_false, Bool.true_xor, Bool.false_xor, decide_true, decide_false, Bool.and_true, Bool.true_and, Bool.and_false, Bool.false_and, eq_self, ne_eq, not_false_eq_true, not_true_eq_false, true_and, and_true, and_self]
    first
      | refine last_s l (by omega) (.inl ⟨rfl, hn⟩) 62 _ (fun x => true) Try.call62 (fun ρ w a hs x W hW => ?_) ?_
      | refine last_s l (by omega) (.inr ⟨_, _, rfl, rfl⟩) 62 _ (fun x => true) Try.call62 (fun ρ w a hs x W hW => ?_) ?_
    · simpa [CV.denL, CV.den] using last1_c W x
    · simp only [go_sem, ↓reduceIte, Nat.reduceEqDiff, Nat.reduceLT, Nat.reduceLeDiff, Nat.reduceAdd, Nat.reduceMul, Nat.reduceSub, Nat.reduceDiv, Nat.reduceMod, Int.reduceToNat, Int.reduceLT, Int.reduceLE, Int.reduceAdd, Int.reduceSub, Int.reduceMul, Int.reduceEq, Int.reduceNeg, reduceCtorEq, or_false, false_or, decide_true, decide_false, Int.cast_ofNat_Int, Nat.zero_add, Nat.add_zero, Int.toNat_natCast, Option.isNone_none, Option.isNone_some, Bool.not_true, Bool.not_false, Bool.xor_true, Bool.xor_false, Bool.true_xor, Bool.false_xor, decide_true, decide_false, Bool.and_true, Bool.true_and, Bool.and_false, Bool.false_and, eq_self, ne_eq, not_false_eq_true, not_true_eq_false, true_and, and_true, and_self, Ver.s, Ver.c]
      refine fun ρ' a w' hs' hag => ?_
      exact ⟨by simp [SV.den, SV.denL, CV.den, CV.denL, Ver.val, Ver.l], (by first | exact on_same rfl rfl (hs'.sub (hp' := [(0, .cells 113 [.v (.slice none 0 0)])]) ⟨rfl, trivial⟩ (by simp)) hag hh rfl hsh0 hg hb | exact on_same rfl rfl (hs'.sub (hp' := [(0, .cells 113 [.s 1 0 l.length c]), (1, .rows 52 6 l.length c fun j => (vrow l j).map .v)]) ⟨rfl, rfl, trivial⟩ (by simp)) hag hh rfl hsh0 hg hb)⟩
end Go.Proofs.Ytbdffcgbleiiaaa.CS
