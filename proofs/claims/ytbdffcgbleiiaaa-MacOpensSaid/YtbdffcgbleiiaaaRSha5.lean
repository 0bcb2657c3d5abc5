/-
  The document's keyed digest. Conditions: none.
-/
import Derived.Test.YtbdffcgbleiiaaaRSha4
import Derived.Test.YtbdffcgbleiiaaaMac3
import Derived.Test.YtbdffcgbleiiaaaMac5
namespace Go.Proofs.Ytbdffcgbleiiaaa
open Go.RowKit Go.Sx Go.Sha Go.Pk
set_option linter.unusedVariables false
set_option linter.unusedSimpArgs false

section
variable {C : Cx} {fr : List (Nat × SV)} {hp : List (Nat × Blk)} {nx : Nat} {d : Option Tmp} {K : St → Prop}
theorem rsum_s {s : ByteArray} (hs : s.size ≤ 4611686018427387000) (h : dOk C.N d ∧ kput K ⟨fr, hp, nx⟩ d (.c (.v (.string (strN (shaL (bl s))))))) : SCall Try.prog C 85 [.c (.v (.string s))] d K ⟨fr, hp, nx⟩ :=
  scall_pure [.string s] _ (.string (strN (shaL (bl s)))) Try.call85 (rsum_c s hs) rfl (fun _ => rfl) (fun _ => rfl) h
end
/-- The first 'k' turned, noughts behind. -/
def yk (P : List Nat) (y k : Nat) : List Nat := (P.take k).map (fun b => (b ^^^ y) % 256) ++ List.replicate (64 - k) 0
theorem yk_len {P : List Nat} {y k : Nat} (hP : P.length = 64) (hk : k ≤ 64) : (yk P y k).length = 64 := by
  simp [yk]; omega
theorem yk_get {P : List Nat} {y k : Nat} (hP : P.length = 64) (hk : k < 64) : (yk P y k)[k]? = some 0 := by
  unfold yk
  have : ((P.take k).map (fun b => (b ^^^ y) % 256)).length = k := by simp; omega
  rw [List.getElem?_append_right (by omega), this, Nat.sub_self, List.getElem?_replicate, if_pos (by omega)]
theorem yk_s {P : List Nat} {y k x : Nat} (hP : P.length = 64) (h : P[k]? = some x) : (yk P y k).set k ((x ^^^ y) % 256) = yk P y (k + 1) := by
  have hk := (List.getElem?_eq_some_iff.1 h).1
  have hl : ((P.take k).map (fun b => (b ^^^ y) % 256)).length = k := by simp; omega
  unfold yk
  rw [List.set_append_right _ _ (by omega), hl, Nat.sub_self, List.take_add_one, h, show 64 - k = (64 - (k + 1)) + 1 by omega, List.replicate_succ]
  simp
theorem yk_all {P : List Nat} {y : Nat} (hP : P.length = 64) : yk P y 64 = P.map fun b => (b ^^^ y) % 256 := by
  unfold yk
  rw [List.take_of_length_le (by omega)]; simp
set_option maxRecDepth 100000 in
set_option maxHeartbeats 4000000 in
theorem padded_c (k : ByteArray) (hk : k.size ≤ 4611686018427387000) (y : Nat) (w : World) : Calls Try.prog 86 #[.string k, .int .u8 (y : Int)] w fun e w' => e = .returned (.string (strN (wth (hmK (bl k)) y))) ∧ Below w.heap.size w w' := by
  refine calls_pure 38 _ Try.func86 rfl Try.ntmps86 Try.results86 [.c (.v (.string k)), .c (.v (.int .u8 (y : Int)))] (by simp) (fun _ => rfl) ?_
  by_cases hk64 : 64 < k.size
  · have hK : hmK (bl k) = shaL (bl k) := by unfold hmK; rw [if_pos (by rw [bl_len]; exact hk64)]
    have hq : bl (strN (shaL (bl k))) = hmK (bl k) := by rw [hK, bl_strN (shaL_lt _)]
    have hql : (strN (shaL (bl k))).size ≤ 64 := by rw [strN_size, shaL_len]; omega
    simp (disch := omega) only [go_sem, ↓reduceIte, Nat.reduceEqDiff, Nat.reduceLT, Nat.reduceLeDiff, Nat.reduceAdd, Nat.reduceMul, Nat.reduceSub, Nat.reduceDiv, Nat.reduceMod, Int.reduceToNat, Int.reduceLT, Int.reduceLE, Int.reduceAdd, Int.reduceSub, Int.reduceMul, Int.reduceEq, Int.reduceNeg, reduceCtorEq, or_false, false_or, decide_true, decide_false, Int.cast_ofNat_Int, Nat.zero_add, Nat.add_zero, Int.toNat_natCast, Option.isNone_none, Option.isNone_some, Bool.not_true, Bool.not_false, Bool.xor_true, Bool.xor_false, Bool.true_xor, Bool.false_xor, decide_true, decide_false, Bool.and_true, Bool.true_and, Bool.and_false, Bool.false_and, eq_self, ne_eq, not_false_eq_true, not_true_eq_false, true_and, and_true, and_self, wrapI64, wrapu64, wrapu32, wrapu8, ltT, ltF, leT, leF, eqF, eqT, nltT, nleT, neqFn]
    refine rsum_s hk ?_
    obtain ⟨q, hqq⟩ : ∃ q, strN (shaL (bl k)) = q := ⟨_, rfl⟩
    rw [hqq] at hq hql ⊢
    obtain ⟨N, hN⟩ : ∃ N : Nat, 64 = N := ⟨_, rfl⟩
    obtain ⟨Pd, hP⟩ : ∃ Pd, bl q ++ List.replicate (64 - q.size) 0 = Pd := ⟨_, rfl⟩
    have hPl : Pd.length = 64 := by rw [← hP]; simp [bl_len]; omega
    have hw : wth (bl q) y = Pd.map fun b => (b ^^^ y) % 256 := by unfold wth; rw [bl_len, hP]
    simp (disch := omega) only [go_sem, ↓reduceIte, Nat.reduceEqDiff, Nat.reduceLT, Nat.reduceLeDiff, Nat.reduceAdd, Nat.reduceMul, Nat.reduceSub, Nat.reduceDiv, Nat.reduceMod, Int.reduceToNat, Int.reduceLT, Int.reduceLE, Int.reduceAdd, Int.reduceSub, Int.reduceMul, Int.reduceEq, Int.reduceNeg, reduceCtorEq, or_false, false_or, decide_true, decide_false, Int.cast_ofNat_Int, Nat.zero_add, Nat.add_zero, Int.toNat_natCast, Option.isNone_none, Option.isNone_some, Bool.not_true, Bool.not_false, Bool.xor_true, Bool.xor_false, Bool.true_xor, Bool.false_xor, decide_true, decide_false, Bool.and_true, Bool.true_and, Bool.and_false, Bool.false_and, eq_self, ne_eq, not_false_eq_true, not_true_eq_false, true_and, and_true, and_self, wrapI64, wrapu64, wrapu32, wrapu8, ltT, ltF, leT, leF, eqF, eqT, nltT, nleT, neqFn]
    refine smake (k := N) (by rw [← hN]; rfl) (by rw [← hN]; rfl) tkind110 tsz5 tby5 tz5 ⟨⟨rfl, by decide⟩, by omega, by omega⟩ ⟨by show (12 : Nat) < 38; omega, ?_⟩
    simp (disch := omega) only [go_sem, ↓reduceIte, Nat.reduceEqDiff, Nat.reduceLT, Nat.reduceLeDiff, Nat.reduceAdd, Nat.reduceMul, Nat.reduceSub, Nat.reduceDiv, Nat.reduceMod, Int.reduceToNat, Int.reduceLT, Int.reduceLE, Int.reduceAdd, Int.reduceSub, Int.reduceMul, Int.reduceEq, Int.reduceNeg, reduceCtorEq, or_false, false_or, decide_true, decide_false, Int.cast_ofNat_Int, Nat.zero_add, Nat.add_zero, Int.toNat_natCast, Option.isNone_none, Option.isNone_some, Bool.not_true, Bool.not_false, Bool.xor_true, Bool.xor_false, Bool.true_xor, Bool.false_xor, decide_true, decide_false, Bool.and_true, Bool.true_and, Bool.and_false, Bool.false_and, eq_self, ne_eq, not_false_eq_true, not_true_eq_false, true_and, and_true, and_self, wrapI64, wrapu64, wrapu32, wrapu8, ltT, ltF, leT, leF, eqF, eqT, nltT, nleT, neqFn]
    refine sloop (fun i : Nat => ⟨[(6, .c (.v (.int .i64 (i : Int)))), (5, .c (.s 0 0 N N)), (1, .c (.v (.int .u8 (y : Int)))), (0, .c (.v (.string q)))], [(0, .rows 5 1 N N (brL (yk Pd y i)))], 1⟩) (fun i => i ≤ 64) (fun i => 64 - i) 0 (Nat.zero_le _)
      (Ent.trans (ent_rows (r' := brL (yk Pd y 0)) 0 rfl fun i hi => ?_) (ent_drop ⟨rfl, rfl, rfl, rfl, trivial⟩ ⟨rfl, trivial⟩ (by simp))) (fun i hi => ?_)
    · rw [brL_get (x := 0) (by show (([] : List Nat).map _ ++ List.replicate 64 0)[i]? = some 0; rw [List.map_nil, List.nil_append, List.getElem?_replicate, if_pos (by omega)])]; rfl
    have hi : i ≤ 64 := hi
    have a1 : (i : Int) + 1 = ((i + 1 : Nat) : Int) := by omega
    by_cases hil : i < 64
    · obtain ⟨x, hx⟩ : ∃ x, Pd[i]? = some x := ⟨_, List.getElem?_eq_getElem (by omega)⟩
      have hlen := yk_len (y := y) hPl hi
      have hget := brL_get (yk_get (y := y) hPl hil)
      have hs := yk_s (y := y) hPl hx
      by_cases hiq : i < q.size
      · have hqx : (bl q)[i]? = some x := by rw [← hx, ← hP, List.getElem?_append_left (by rw [bl_len]; exact hiq)]
        have hbt := bt_get hqx
        have h1 := rupd_br (L := yk Pd y i) (i := i) (x := x) (by omega)
        have h2 := brL_get (L := (yk Pd y i).set i x) (i := i) (x := x) (by rw [List.getElem?_set_self (by omega)])
        have h3 := rupd_br (L := (yk Pd y i).set i x) (i := i) (x := (x ^^^ y) % 256) (by rw [List.length_set]; omega)
        rw [List.set_set, hs] at h3
        simp (disch := omega) only [go_sem, ↓reduceIte, Nat.reduceEqDiff, Nat.reduceLT, Nat.reduceLeDiff, Nat.reduceAdd, Nat.reduceMul, Nat.reduceSub, Nat.reduceDiv, Nat.reduceMod, Int.reduceToNat, Int.reduceLT, Int.reduceLE, Int.reduceAdd, Int.reduceSub, Int.reduceMul, Int.reduceEq, Int.reduceNeg, reduceCtorEq, or_false, false_or, decide_true, decide_false, Int.cast_ofNat_Int, Nat.zero_add, Nat.add_zero, Int.toNat_natCast, Option.isNone_none, Option.isNone_some, Bool.not_true, Bool.not_false, Bool.xor_true, Bool.xor_false, Bool.true_xor, Bool.false_xor, decide_true, decide_false, Bool.and_true, Bool.true_and, Bool.and_false, Bool.false_and, eq_self, ne_eq, not_false_eq_true, not_true_eq_false, true_and, and_true, and_self, wrapI64, wrapu64, wrapu32, wrapu8, ltT, ltF, leT, leF, eqF, eqT, nltT, nleT, neqFn, hbt, hget, h1, h2, bXor8, h3, a1]
        exact ⟨i + 1, hil, by omega, ent_drop ⟨rfl, rfl, rfl, rfl, trivial⟩ ⟨rfl, trivial⟩ (by simp)⟩
      · have hx0 : x = 0 := by
          rw [← hP, List.getElem?_append_right (by rw [bl_len]; omega), List.getElem?_replicate] at hx
          split at hx
          · exact (Option.some.inj hx).symm
          · cases hx
        subst hx0
        have h3 := rupd_br (L := yk Pd y i) (i := i) (x := (0 ^^^ y) % 256) (by omega)
        rw [hs] at h3
        have bx0 : ibit .xor .u8 0 (y : Int) = (((0 ^^^ y) % 256 : Nat) : Int) := bXor8 0 y
        simp (disch := omega) only [go_sem, ↓reduceIte, Nat.reduceEqDiff, Nat.reduceLT, Nat.reduceLeDiff, Nat.reduceAdd, Nat.reduceMul, Nat.reduceSub, Nat.reduceDiv, Nat.reduceMod, Int.reduceToNat, Int.reduceLT, Int.reduceLE, Int.reduceAdd, Int.reduceSub, Int.reduceMul, Int.reduceEq, Int.reduceNeg, reduceCtorEq, or_false, false_or, decide_true, decide_false, Int.cast_ofNat_Int, Nat.zero_add, Nat.add_zero, Int.toNat_natCast, Option.isNone_none, Option.isNone_some, Bool.not_true, Bool.not_false, Bool.xor_true, Bool.xor_false, Bool.true_xor, Bool.false_xor, decide_true, decide_false, Bool.and_true, Bool.true_and, Bool.and_false, Bool.false_and, eq_self, ne_eq, not_false_eq_true, not_true_eq_false, true_and, and_true, and_self, wrapI64, wrapu64, wrapu32, wrapu8, ltT, ltF, leT, leF, eqF, eqT, nltT, nleT, neqFn, hget, bx0, h3, a1]
        exact ⟨i + 1, hil, by omega, ent_drop ⟨rfl, rfl, rfl, rfl, trivial⟩ ⟨rfl, trivial⟩ (by simp)⟩
    · have : i = 64 := by omega
      subst this
      have hall : yk Pd y 64 = wth (bl q) y := by rw [hw, yk_all hPl]
      have hwl : (wth (bl q) y).length = N := by rw [hw, List.length_map, hPl, hN]
      have hby := byL_br (L := wth (bl q) y) (n := N) (i := 0) (by omega)
      rw [List.drop_zero, List.take_of_length_le (by omega)] at hby
      rw [hall, ← hq]
      simp (disch := omega) only [go_sem, ↓reduceIte, Nat.reduceEqDiff, Nat.reduceLT, Nat.reduceLeDiff, Nat.reduceAdd, Nat.reduceMul, Nat.reduceSub, Nat.reduceDiv, Nat.reduceMod, Int.reduceToNat, Int.reduceLT, Int.reduceLE, Int.reduceAdd, Int.reduceSub, Int.reduceMul, Int.reduceEq, Int.reduceNeg, reduceCtorEq, or_false, false_or, decide_true, decide_false, Int.cast_ofNat_Int, Nat.zero_add, Nat.add_zero, Int.toNat_natCast, Option.isNone_none, Option.isNone_some, Bool.not_true, Bool.not_false, Bool.xor_true, Bool.xor_false, Bool.true_xor, Bool.false_xor, decide_true, decide_false, Bool.and_true, Bool.true_and, Bool.and_false, Bool.false_and, eq_self, ne_eq, not_false_eq_true, not_true_eq_false, true_and, and_true, and_self, wrapI64, wrapu64, wrapu32, wrapu8, ltT, ltF, leT, leF, eqF, eqT, nltT, nleT, neqFn, hby, strB_map]
      exact fun ρ a w hs _ => ⟨rfl, hs.grown⟩
  · have hq : bl k = hmK (bl k) := by unfold hmK; rw [if_neg (by rw [bl_len]; exact hk64)]
    have hql : k.size ≤ 64 := by omega
    obtain ⟨q, hqq⟩ : ∃ q, k = q := ⟨_, rfl⟩
    rw [hqq] at hql hk64
    rw [← hq, hqq]
    replace hq : bl q = bl q := rfl
    obtain ⟨N, hN⟩ : ∃ N : Nat, 64 = N := ⟨_, rfl⟩
    obtain ⟨Pd, hP⟩ : ∃ Pd, bl q ++ List.replicate (64 - q.size) 0 = Pd := ⟨_, rfl⟩
    have hPl : Pd.length = 64 := by rw [← hP]; simp [bl_len]; omega
    have hw : wth (bl q) y = Pd.map fun b => (b ^^^ y) % 256 := by unfold wth; rw [bl_len, hP]
    simp (disch := omega) only [go_sem, ↓reduceIte, Nat.reduceEqDiff, Nat.reduceLT, Nat.reduceLeDiff, Nat.reduceAdd, Nat.reduceMul, Nat.reduceSub, Nat.reduceDiv, Nat.reduceMod, Int.reduceToNat, Int.reduceLT, Int.reduceLE, Int.reduceAdd, Int.reduceSub, Int.reduceMul, Int.reduceEq, Int.reduceNeg, reduceCtorEq, or_false, false_or, decide_true, decide_false, Int.cast_ofNat_Int, Nat.zero_add, Nat.add_zero, Int.toNat_natCast, Option.isNone_none, Option.isNone_some, Bool.not_true, Bool.not_false, Bool.xor_true, Bool.xor_false, Bool.true_xor, Bool.false_xor, decide_true, decide_false, Bool.and_true, Bool.true_and, Bool.and_false, Bool.false_and, eq_self, ne_eq, not_false_eq_true, not_true_eq_false, true_and, and_true, and_self, wrapI64, wrapu64, wrapu32, wrapu8, ltT, ltF, leT, leF, eqF, eqT, nltT, nleT, neqFn]
    refine smake (k := N) (by rw [← hN]; rfl) (by rw [← hN]; rfl) tkind110 tsz5 tby5 tz5 ⟨⟨rfl, by decide⟩, by omega, by omega⟩ ⟨by show (12 : Nat) < 38; omega, ?_⟩
    simp (disch := omega) only [go_sem, ↓reduceIte, Nat.reduceEqDiff, Nat.reduceLT, Nat.reduceLeDiff, Nat.reduceAdd, Nat.reduceMul, Nat.reduceSub, Nat.reduceDiv, Nat.reduceMod, Int.reduceToNat, Int.reduceLT, Int.reduceLE, Int.reduceAdd, Int.reduceSub, Int.reduceMul, Int.reduceEq, Int.reduceNeg, reduceCtorEq, or_false, false_or, decide_true, decide_false, Int.cast_ofNat_Int, Nat.zero_add, Nat.add_zero, Int.toNat_natCast, Option.isNone_none, Option.isNone_some, Bool.not_true, Bool.not_false, Bool.xor_true, Bool.xor_false, Bool.true_xor, Bool.false_xor, decide_true, decide_false, Bool.and_true, Bool.true_and, Bool.and_false, Bool.false_and, eq_self, ne_eq, not_false_eq_true, not_true_eq_false, true_and, and_true, and_self, wrapI64, wrapu64, wrapu32, wrapu8, ltT, ltF, leT, leF, eqF, eqT, nltT, nleT, neqFn]
    refine sloop (fun i : Nat => ⟨[(6, .c (.v (.int .i64 (i : Int)))), (5, .c (.s 0 0 N N)), (1, .c (.v (.int .u8 (y : Int)))), (0, .c (.v (.string q)))], [(0, .rows 5 1 N N (brL (yk Pd y i)))], 1⟩) (fun i => i ≤ 64) (fun i => 64 - i) 0 (Nat.zero_le _)
      (Ent.trans (ent_rows (r' := brL (yk Pd y 0)) 0 rfl fun i hi => ?_) (ent_drop ⟨rfl, rfl, rfl, rfl, trivial⟩ ⟨rfl, trivial⟩ (by simp))) (fun i hi => ?_)
    · rw [brL_get (x := 0) (by show (([] : List Nat).map _ ++ List.replicate 64 0)[i]? = some 0; rw [List.map_nil, List.nil_append, List.getElem?_replicate, if_pos (by omega)])]; rfl
    have hi : i ≤ 64 := hi
    have a1 : (i : Int) + 1 = ((i + 1 : Nat) : Int) := by omega
    by_cases hil : i < 64
    · obtain ⟨x, hx⟩ : ∃ x, Pd[i]? = some x := ⟨_, List.getElem?_eq_getElem (by omega)⟩
      have hlen := yk_len (y := y) hPl hi
      have hget := brL_get (yk_get (y := y) hPl hil)
      have hs := yk_s (y := y) hPl hx
      by_cases hiq : i < q.size
      · have hqx : (bl q)[i]? = some x := by rw [← hx, ← hP, List.getElem?_append_left (by rw [bl_len]; exact hiq)]
        have hbt := bt_get hqx
        have h1 := rupd_br (L := yk Pd y i) (i := i) (x := x) (by omega)
        have h2 := brL_get (L := (yk Pd y i).set i x) (i := i) (x := x) (by rw [List.getElem?_set_self (by omega)])
        have h3 := rupd_br (L := (yk Pd y i).set i x) (i := i) (x := (x ^^^ y) % 256) (by rw [List.length_set]; omega)
        rw [List.set_set, hs] at h3
        simp (disch := omega) only [go_sem, ↓reduceIte, Nat.reduceEqDiff, Nat.reduceLT, Nat.reduceLeDiff, Nat.reduceAdd, Nat.reduceMul, Nat.reduceSub, Nat.reduceDiv, Nat.reduceMod, Int.reduceToNat, Int.reduceLT, Int.reduceLE, Int.reduceAdd, Int.reduceSub, Int.reduceMul, Int.reduceEq, Int.reduceNeg, reduceCtorEq, or_false, false_or, decide_true, decide_false, Int.cast_ofNat_Int, Nat.zero_add, Nat.add_zero, Int.toNat_natCast, Option.isNone_none, Option.isNone_some, Bool.not_true, Bool.not_false, Bool.xor_true, Bool.xor_false, Bool.true_xor, Bool.false_xor, decide_true, decide_false, Bool.and_true, Bool.true_and, Bool.and_false, Bool.false_and, eq_self, ne_eq, not_false_eq_true, not_true_eq_false, true_and, and_true, and_self, wrapI64, wrapu64, wrapu32, wrapu8, ltT, ltF, leT, leF, eqF, eqT, nltT, nleT, neqFn, hbt, hget, h1, h2, bXor8, h3, a1]
        exact ⟨i + 1, hil, by omega, ent_drop ⟨rfl, rfl, rfl, rfl, trivial⟩ ⟨rfl, trivial⟩ (by simp)⟩
      · have hx0 : x = 0 := by
          rw [← hP, List.getElem?_append_right (by rw [bl_len]; omega), List.getElem?_replicate] at hx
          split at hx
          · exact (Option.some.inj hx).symm
          · cases hx
        subst hx0
        have h3 := rupd_br (L := yk Pd y i) (i := i) (x := (0 ^^^ y) % 256) (by omega)
        rw [hs] at h3
        have bx0 : ibit .xor .u8 0 (y : Int) = (((0 ^^^ y) % 256 : Nat) : Int) := bXor8 0 y
        simp (disch := omega) only [go_sem, ↓reduceIte, Nat.reduceEqDiff, Nat.reduceLT, Nat.reduceLeDiff, Nat.reduceAdd, Nat.reduceMul, Nat.reduceSub, Nat.reduceDiv, Nat.reduceMod, Int.reduceToNat, Int.reduceLT, Int.reduceLE, Int.reduceAdd, Int.reduceSub, Int.reduceMul, Int.reduceEq, Int.reduceNeg, reduceCtorEq, or_false, false_or, decide_true, decide_false, Int.cast_ofNat_Int, Nat.zero_add, Nat.add_zero, Int.toNat_natCast, Option.isNone_none, Option.isNone_some, Bool.not_true, Bool.not_false, Bool.xor_true, Bool.xor_false, Bool.true_xor, Bool.false_xor, decide_true, decide_false, Bool.and_true, Bool.true_and, Bool.and_false, Bool.false_and, eq_self, ne_eq, not_false_eq_true, not_true_eq_false, true_and, and_true, and_self, wrapI64, wrapu64, wrapu32, wrapu8, ltT, ltF, leT, leF, eqF, eqT, nltT, nleT, neqFn, hget, bx0, h3, a1]
        exact ⟨i + 1, hil, by omega, ent_drop ⟨rfl, rfl, rfl, rfl, trivial⟩ ⟨rfl, trivial⟩ (by simp)⟩
    · have : i = 64 := by omega
      subst this
      have hall : yk Pd y 64 = wth (bl q) y := by rw [hw, yk_all hPl]
      have hwl : (wth (bl q) y).length = N := by rw [hw, List.length_map, hPl, hN]
      have hby := byL_br (L := wth (bl q) y) (n := N) (i := 0) (by omega)
      rw [List.drop_zero, List.take_of_length_le (by omega)] at hby
      rw [hall, ← hq]
      simp (disch := omega) only [go_sem, ↓reduceIte, Nat.reduceEqDiff, Nat.reduceLT, Nat.reduceLeDiff, Nat.reduceAdd, Nat.reduceMul, Nat.reduceSub, Nat.reduceDiv, Nat.reduceMod, Int.reduceToNat, Int.reduceLT, Int.reduceLE, Int.reduceAdd, Int.reduceSub, Int.reduceMul, Int.reduceEq, Int.reduceNeg, reduceCtorEq, or_false, false_or, decide_true, decide_false, Int.cast_ofNat_Int, Nat.zero_add, Nat.add_zero, Int.toNat_natCast, Option.isNone_none, Option.isNone_some, Bool.not_true, Bool.not_false, Bool.xor_true, Bool.xor_false, Bool.true_xor, Bool.false_xor, decide_true, decide_false, Bool.and_true, Bool.true_and, Bool.and_false, Bool.false_and, eq_self, ne_eq, not_false_eq_true, not_true_eq_false, true_and, and_true, and_self, wrapI64, wrapu64, wrapu32, wrapu8, ltT, ltF, leT, leF, eqF, eqT, nltT, nleT, neqFn, hby, strB_map]
      exact fun ρ a w hs _ => ⟨rfl, hs.grown⟩
theorem padded_s {C : Cx} {fr : List (Nat × SV)} {hp : List (Nat × Blk)} {nx : Nat} {d : Option Tmp} {K : St → Prop} {k : ByteArray} (hk : k.size ≤ 4611686018427387000) (y : Nat) {m : Int} (hm : m = (y : Int)) (h : dOk C.N d ∧ kput K ⟨fr, hp, nx⟩ d (.c (.v (.string (strN (wth (hmK (bl k)) y)))))) : SCall Try.prog C 86 [.c (.v (.string k)), .c (.v (.int .u8 m))] d K ⟨fr, hp, nx⟩ := by
  subst hm
  exact scall_pure [.string k, .int .u8 (y : Int)] _ (.string (strN (wth (hmK (bl k)) y))) Try.call86 (padded_c k hk y) rfl (fun _ => rfl) (fun _ => rfl) h
theorem hmK_len (k : List Nat) : (hmK k).length ≤ 64 := by
  unfold hmK
  split
  · rw [shaL_len]; omega
  · omega
theorem rhsum_c (k s : ByteArray) (hk : k.size ≤ 4611686018427387000) (hs : s.size ≤ 4611686018427386000) (w : World) : Calls Try.prog 40 #[.string k, .string s] w fun e w' => e = .returned (.string (strN (hmL (bl k) (bl s)))) ∧ Below w.heap.size w w' := by
  refine calls_pure 16 _ Try.func40 rfl Try.ntmps40 Try.results40 [.c (.v (.string k)), .c (.v (.string s))] (by simp) (fun _ => rfl) ?_
  have hz : ∀ y, (strN (wth (hmK (bl k)) y)).size = 64 := fun y => by rw [strN_size, wth_len (hmK_len _)]
  have hb : ∀ y, bl (strN (wth (hmK (bl k)) y)) = wth (hmK (bl k)) y := fun y => bl_strN fun x hx => wth_lt hx
  have f1 : (strN (wth (hmK (bl k)) 54)).size + s.size ≤ 9223372036854775807 := by rw [hz]; omega
  have f2 : bl (strN (wth (hmK (bl k)) 54) ++ s) = wth (hmK (bl k)) 54 ++ bl s := by rw [bl_app, hb]
  have f3 : (strN (wth (hmK (bl k)) 54) ++ s).size ≤ 4611686018427387000 := by rw [ByteArray.size_append, hz]; omega
  have h3 := strN_size (shaL (wth (hmK (bl k)) 54 ++ bl s))
  rw [shaL_len] at h3
  have g1 : (strN (wth (hmK (bl k)) 92)).size + (strN (shaL (wth (hmK (bl k)) 54 ++ bl s))).size ≤ 9223372036854775807 := by rw [hz, h3]; omega
  have g2 : bl (strN (wth (hmK (bl k)) 92) ++ strN (shaL (wth (hmK (bl k)) 54 ++ bl s))) = wth (hmK (bl k)) 92 ++ shaL (wth (hmK (bl k)) 54 ++ bl s) := by rw [bl_app, hb, bl_strN (shaL_lt _)]
  have g3 : (strN (wth (hmK (bl k)) 92) ++ strN (shaL (wth (hmK (bl k)) 54 ++ bl s))).size ≤ 4611686018427387000 := by rw [ByteArray.size_append, hz, h3]; omega
  simp (disch := omega) only [go_sem, ↓reduceIte, Nat.reduceEqDiff, Nat.reduceLT, Nat.reduceLeDiff, Nat.reduceAdd, Nat.reduceMul, Nat.reduceSub, Nat.reduceDiv, Nat.reduceMod, Int.reduceToNat, Int.reduceLT, Int.reduceLE, Int.reduceAdd, Int.reduceSub, Int.reduceMul, Int.reduceEq, Int.reduceNeg, reduceCtorEq, or_false, false_or, decide_true, decide_false, Int.cast_ofNat_Int, Nat.zero_add, Nat.add_zero, Int.toNat_natCast, Option.isNone_none, Option.isNone_some, Bool.not_true, Bool.not_false, Bool.xor_true, Bool.xor_false, Bool.true_xor, Bool.false_xor, decide_true, decide_false, Bool.and_true, Bool.true_and, Bool.and_false, Bool.false_and, eq_self, ne_eq, not_false_eq_true, not_true_eq_false, true_and, and_true, and_self, wrapI64, wrapu64, wrapu32, wrapu8, ltT, ltF, leT, leF, eqF, eqT, nltT, nleT, neqFn]
  refine padded_s hk 54 rfl ?_
  simp (disch := omega) only [go_sem, ↓reduceIte, Nat.reduceEqDiff, Nat.reduceLT, Nat.reduceLeDiff, Nat.reduceAdd, Nat.reduceMul, Nat.reduceSub, Nat.reduceDiv, Nat.reduceMod, Int.reduceToNat, Int.reduceLT, Int.reduceLE, Int.reduceAdd, Int.reduceSub, Int.reduceMul, Int.reduceEq, Int.reduceNeg, reduceCtorEq, or_false, false_or, decide_true, decide_false, Int.cast_ofNat_Int, Nat.zero_add, Nat.add_zero, Int.toNat_natCast, Option.isNone_none, Option.isNone_some, Bool.not_true, Bool.not_false, Bool.xor_true, Bool.xor_false, Bool.true_xor, Bool.false_xor, decide_true, decide_false, Bool.and_true, Bool.true_and, Bool.and_false, Bool.false_and, eq_self, ne_eq, not_false_eq_true, not_true_eq_false, true_and, and_true, and_self, wrapI64, wrapu64, wrapu32, wrapu8, ltT, ltF, leT, leF, eqF, eqT, nltT, nleT, neqFn, f1]
  refine rsum_s f3 ?_
  rw [f2]
  simp (disch := omega) only [go_sem, ↓reduceIte, Nat.reduceEqDiff, Nat.reduceLT, Nat.reduceLeDiff, Nat.reduceAdd, Nat.reduceMul, Nat.reduceSub, Nat.reduceDiv, Nat.reduceMod, Int.reduceToNat, Int.reduceLT, Int.reduceLE, Int.reduceAdd, Int.reduceSub, Int.reduceMul, Int.reduceEq, Int.reduceNeg, reduceCtorEq, or_false, false_or, decide_true, decide_false, Int.cast_ofNat_Int, Nat.zero_add, Nat.add_zero, Int.toNat_natCast, Option.isNone_none, Option.isNone_some, Bool.not_true, Bool.not_false, Bool.xor_true, Bool.xor_false, Bool.true_xor, Bool.false_xor, decide_true, decide_false, Bool.and_true, Bool.true_and, Bool.and_false, Bool.false_and, eq_self, ne_eq, not_false_eq_true, not_true_eq_false, true_and, and_true, and_self, wrapI64, wrapu64, wrapu32, wrapu8, ltT, ltF, leT, leF, eqF, eqT, nltT, nleT, neqFn]
  refine padded_s hk 92 rfl ?_
  simp (disch := omega) only [go_sem, ↓reduceIte, Nat.reduceEqDiff, Nat.reduceLT, Nat.reduceLeDiff, Nat.reduceAdd, Nat.reduceMul, Nat.reduceSub, Nat.reduceDiv, Nat.reduceMod, Int.reduceToNat, Int.reduceLT, Int.reduceLE, Int.reduceAdd, Int.reduceSub, Int.reduceMul, Int.reduceEq, Int.reduceNeg, reduceCtorEq, or_false, false_or, decide_true, decide_false, Int.cast_ofNat_Int, Nat.zero_add, Nat.add_zero, Int.toNat_natCast, Option.isNone_none, Option.isNone_some, Bool.not_true, Bool.not_false, Bool.xor_true, Bool.xor_false, Bool.true_xor, Bool.false_xor, decide_true, decide_false, Bool.and_true, Bool.true_and, Bool.and_false, Bool.false_and, eq_self, ne_eq, not_false_eq_true, not_true_eq_false, true_and, and_true, and_self, wrapI64, wrapu64, wrapu32, wrapu8, ltT, ltF, leT, leF, eqF, eqT, nltT, nleT, neqFn, g1]
  refine rsum_s g3 ?_
  rw [g2]
  simp (disch := omega) only [go_sem, ↓reduceIte, Nat.reduceEqDiff, Nat.reduceLT, Nat.reduceLeDiff, Nat.reduceAdd, Nat.reduceMul, Nat.reduceSub, Nat.reduceDiv, Nat.reduceMod, Int.reduceToNat, Int.reduceLT, Int.reduceLE, Int.reduceAdd, Int.reduceSub, Int.reduceMul, Int.reduceEq, Int.reduceNeg, reduceCtorEq, or_false, false_or, decide_true, decide_false, Int.cast_ofNat_Int, Nat.zero_add, Nat.add_zero, Int.toNat_natCast, Option.isNone_none, Option.isNone_some, Bool.not_true, Bool.not_false, Bool.xor_true, Bool.xor_false, Bool.true_xor, Bool.false_xor, decide_true, decide_false, Bool.and_true, Bool.true_and, Bool.and_false, Bool.false_and, eq_self, ne_eq, not_false_eq_true, not_true_eq_false, true_and, and_true, and_self, wrapI64, wrapu64, wrapu32, wrapu8, ltT, ltF, leT, leF, eqF, eqT, nltT, nleT, neqFn]
  exact fun ρ a w hs _ => ⟨rfl, hs.grown⟩
theorem rhsum_s {C : Cx} {fr : List (Nat × SV)} {hp : List (Nat × Blk)} {nx : Nat} {d : Option Tmp} {K : St → Prop} {k s : ByteArray} (hk : k.size ≤ 4611686018427387000) (hs : s.size ≤ 4611686018427386000) (h : dOk C.N d ∧ kput K ⟨fr, hp, nx⟩ d (.c (.v (.string (strN (hmL (bl k) (bl s))))))) : SCall Try.prog C 40 [.c (.v (.string k)), .c (.v (.string s))] d K ⟨fr, hp, nx⟩ :=
  scall_pure [.string k, .string s] _ (.string (strN (hmL (bl k) (bl s)))) Try.call40 (rhsum_c k s hk hs) rfl (fun _ => rfl) (fun _ => rfl) h
end Go.Proofs.Ytbdffcgbleiiaaa
