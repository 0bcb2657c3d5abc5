/-
  mac: the keyed digest; whether a token may be; May. Conditions: none.
-/
import Derived.Test.YtbdffcgbleiiaaaPack3
import Derived.Test.YtbdffcgbleiiaaaShelf
namespace Go.Proofs.Ytbdffcgbleiiaaa
open Go.RowKit Go.Sx Go.Sha Go.Pk
set_option linter.unusedVariables false
set_option linter.unusedSimpArgs false

theorem repeat_zero : ∀ n, Lib.repeatL [(0 : UInt8)] n = List.replicate n 0
  | 0 => rfl
  | n + 1 => by
    show [0] ++ Lib.repeatL [(0 : UInt8)] n = _
    rw [repeat_zero n]; rfl
theorem zero_c (n : Nat) (h : n ≤ 140737488355328) (w : World) : Calls Try.prog 113 #[.string ⟨#[0]⟩, .int .i64 n] w fun e w' => e = .returned (.string (strN (List.replicate n 0))) ∧ Below w.heap.size w w' := by
  have e : (⟨(Lib.repeatL (⟨#[0]⟩ : ByteArray).data.toList n).toArray⟩ : ByteArray) = strN (List.replicate n 0) := by
    show (⟨(Lib.repeatL [(0 : UInt8)] n).toArray⟩ : ByteArray) = _
    rw [repeat_zero, strN, List.map_replicate]; rfl
  rw [← e]
  exact Try.strings_Repeat ⟨#[0]⟩ n w (by omega) (by show 1 * n ≤ _; omega)
theorem bXor8 (a b : Nat) : ibit .xor .u8 (a : Int) (b : Int) = (((a ^^^ b) % 256 : Nat) : Int) := by
  simp only [ibit, ofInt_cast, IntKind.bits, BitVec.toNat_xor, BitVec.toNat_ofNat]
  rw [Nat.xor_mod_two_pow (n := 8)]
  exact wrap_u8 _ (by omega) (by
    have := Nat.xor_lt_two_pow (n := 8) (Nat.mod_lt a (by omega)) (Nat.mod_lt b (by omega))
    omega)
/-- The first 'k' turned. -/
def xk (P : List Nat) (y k : Nat) : List Nat := (P.take k).map (fun b => (b ^^^ y) % 256) ++ P.drop k
theorem xk_len (P : List Nat) (y k : Nat) : (xk P y k).length = P.length := by
  simp [xk]; omega
theorem xk_get {P : List Nat} {y k x : Nat} (h : P[k]? = some x) : (xk P y k)[k]? = some x := by
  have hk := (List.getElem?_eq_some_iff.1 h).1
  unfold xk
  rw [List.getElem?_append_right (by simp; omega), List.getElem?_drop]
  have : ((P.take k).map (fun b => (b ^^^ y) % 256)).length = k := by simp; omega
  rw [this, Nat.sub_self, Nat.add_zero, h]
theorem xk_s {P : List Nat} {y k x : Nat} (h : P[k]? = some x) : (xk P y k).set k ((x ^^^ y) % 256) = xk P y (k + 1) := by
  have hk := (List.getElem?_eq_some_iff.1 h).1
  have hl : ((P.take k).map (fun b => (b ^^^ y) % 256)).length = k := by simp; omega
  unfold xk
  rw [List.set_append_right _ _ (by omega), hl, Nat.sub_self, List.take_add_one, h]
  have hd : P.drop k = x :: P.drop (k + 1) := by
    obtain ⟨h1, rfl⟩ := List.getElem?_eq_some_iff.1 h
    exact List.drop_eq_getElem_cons h1
  rw [hd]
  simp
theorem xk_all (P : List Nat) (y : Nat) : xk P y P.length = P.map fun b => (b ^^^ y) % 256 := by
  unfold xk
  rw [List.take_length, List.drop_length, List.append_nil]
set_option maxRecDepth 100000 in
set_option maxHeartbeats 1000000 in
theorem with_c (s : ByteArray) (hs : s.size ≤ 64) (y : Nat) (w : World) : Calls Try.prog 84 #[.string s, .int .u8 (y : Int)] w fun e w' => e = .returned (.string (strN (wth (bl s) y))) ∧ Below w.heap.size w w' := by
  refine calls_pure 29 _ Try.func84 rfl Try.ntmps84 Try.results84 [.c (.v (.string s)), .c (.v (.int .u8 (y : Int)))] (by simp) (fun _ => rfl) ?_
  have a1 : (64 : Int) - (s.size : Int) = ((64 - s.size : Nat) : Int) := by omega
  have hz := strN_size (List.replicate (64 - s.size) 0)
  rw [List.length_replicate] at hz
  obtain ⟨Pd, hP⟩ : ∃ Pd, bl s ++ List.replicate (64 - s.size) 0 = Pd := ⟨_, rfl⟩
  have hPs : s ++ strN (List.replicate (64 - s.size) 0) = strN Pd := by rw [← hP, strN_app, strN_bl]
  have hP256 : ∀ x, x ∈ Pd → x < 256 := fun x hx => by
    rw [← hP] at hx
    rcases List.mem_append.1 hx with hx | hx
    · exact bl_lt s x hx
    · rw [List.eq_of_mem_replicate hx]; omega
  have hPl : Pd.length = 64 := by rw [← hP]; simp [bl_len]; omega
  have hw : wth (bl s) y = Pd.map fun b => (b ^^^ y) % 256 := by unfold wth; rw [bl_len, hP]
  have hadd : s.size + (strN (List.replicate (64 - s.size) 0)).size ≤ 9223372036854775807 := by rw [hz]; omega
  have hsz := strN_size Pd
  simp (disch := omega) only [go_sem, ↓reduceIte, Nat.reduceEqDiff, Nat.reduceLT, Nat.reduceLeDiff, Nat.reduceAdd, Nat.reduceMul, Nat.reduceSub, Nat.reduceDiv, Nat.reduceMod, Int.reduceToNat, Int.reduceLT, Int.reduceLE, Int.reduceAdd, Int.reduceSub, Int.reduceMul, Int.reduceEq, Int.reduceNeg, reduceCtorEq, or_false, false_or, decide_true, decide_false, Int.cast_ofNat_Int, Nat.zero_add, Nat.add_zero, Int.toNat_natCast, Option.isNone_none, Option.isNone_some, Bool.not_true, Bool.not_false, Bool.xor_true, Bool.xor_false, Bool.true_xor, Bool.false_xor, decide_true, decide_false, Bool.and_true, Bool.true_and, Bool.and_false, Bool.false_and, eq_self, ne_eq, not_false_eq_true, not_true_eq_false, true_and, and_true, and_self, wrapI64, wrapu64, wrapu32, wrapu8, ltT, ltF, leT, leF, eqF, eqT, nltT, nleT, neqFn, a1]
  refine scall_pure [.string ⟨#[0]⟩, .int .i64 ((64 - s.size : Nat) : Int)] (.c (.v (.string (strN (List.replicate (64 - s.size) 0))))) (.string (strN (List.replicate (64 - s.size) 0))) Try.call113 (zero_c _ (by omega)) rfl (fun _ => rfl) (fun _ => rfl) ?_
  simp (disch := omega) only [go_sem, ↓reduceIte, Nat.reduceEqDiff, Nat.reduceLT, Nat.reduceLeDiff, Nat.reduceAdd, Nat.reduceMul, Nat.reduceSub, Nat.reduceDiv, Nat.reduceMod, Int.reduceToNat, Int.reduceLT, Int.reduceLE, Int.reduceAdd, Int.reduceSub, Int.reduceMul, Int.reduceEq, Int.reduceNeg, reduceCtorEq, or_false, false_or, decide_true, decide_false, Int.cast_ofNat_Int, Nat.zero_add, Nat.add_zero, Int.toNat_natCast, Option.isNone_none, Option.isNone_some, Bool.not_true, Bool.not_false, Bool.xor_true, Bool.xor_false, Bool.true_xor, Bool.false_xor, decide_true, decide_false, Bool.and_true, Bool.true_and, Bool.and_false, Bool.false_and, eq_self, ne_eq, not_false_eq_true, not_true_eq_false, true_and, and_true, and_self, wrapI64, wrapu64, wrapu32, wrapu8, ltT, ltF, leT, leF, eqF, eqT, nltT, nleT, neqFn, hadd, hPs]
  refine sbytes2 rfl tkind9 tkind110 tint5 ⟨by show (13 : Nat) < 29; omega, fun c' hc' => ?_⟩
  rw [hsz, bl_strN hP256]
  obtain ⟨N, hN⟩ : ∃ N, Pd.length = N := ⟨_, rfl⟩
  rw [hN] at hPl ⊢
  simp (disch := omega) only [go_sem, ↓reduceIte, Nat.reduceEqDiff, Nat.reduceLT, Nat.reduceLeDiff, Nat.reduceAdd, Nat.reduceMul, Nat.reduceSub, Nat.reduceDiv, Nat.reduceMod, Int.reduceToNat, Int.reduceLT, Int.reduceLE, Int.reduceAdd, Int.reduceSub, Int.reduceMul, Int.reduceEq, Int.reduceNeg, reduceCtorEq, or_false, false_or, decide_true, decide_false, Int.cast_ofNat_Int, Nat.zero_add, Nat.add_zero, Int.toNat_natCast, Option.isNone_none, Option.isNone_some, Bool.not_true, Bool.not_false, Bool.xor_true, Bool.xor_false, Bool.true_xor, Bool.false_xor, decide_true, decide_false, Bool.and_true, Bool.true_and, Bool.and_false, Bool.false_and, eq_self, ne_eq, not_false_eq_true, not_true_eq_false, true_and, and_true, and_self, wrapI64, wrapu64, wrapu32, wrapu8, ltT, ltF, leT, leF, eqF, eqT, nltT, nleT, neqFn]
  refine sloop (fun k : Nat => ⟨[(16, .c (.v (.int .i64 (k : Int)))), (15, .c (.v (.int .i64 (N : Int)))), (5, .c (.s 0 0 N c')), (1, .c (.v (.int .u8 (y : Int))))], [(0, .rows 5 1 N c' (brL (xk Pd y k)))], 1⟩) (fun k => k ≤ N) (fun k => N - k) 0 (Nat.zero_le _) (ent_drop ⟨rfl, rfl, rfl, rfl, trivial⟩ ⟨by unfold xk; rfl, trivial⟩ (by simp)) (fun k hk => ?_)
  have hk : k ≤ N := hk
  by_cases hkl : k < N
  · obtain ⟨x, hx⟩ : ∃ x, Pd[k]? = some x := ⟨_, List.getElem?_eq_getElem (by omega)⟩
    have hrow := brL_get (xk_get (y := y) hx)
    have hup := rupd_br (L := xk Pd y k) (i := k) (x := (x ^^^ y) % 256) (by rw [xk_len]; omega)
    rw [xk_s hx] at hup
    simp (disch := omega) only [go_sem, ↓reduceIte, Nat.reduceEqDiff, Nat.reduceLT, Nat.reduceLeDiff, Nat.reduceAdd, Nat.reduceMul, Nat.reduceSub, Nat.reduceDiv, Nat.reduceMod, Int.reduceToNat, Int.reduceLT, Int.reduceLE, Int.reduceAdd, Int.reduceSub, Int.reduceMul, Int.reduceEq, Int.reduceNeg, reduceCtorEq, or_false, false_or, decide_true, decide_false, Int.cast_ofNat_Int, Nat.zero_add, Nat.add_zero, Int.toNat_natCast, Option.isNone_none, Option.isNone_some, Bool.not_true, Bool.not_false, Bool.xor_true, Bool.xor_false, Bool.true_xor, Bool.false_xor, decide_true, decide_false, Bool.and_true, Bool.true_and, Bool.and_false, Bool.false_and, eq_self, ne_eq, not_false_eq_true, not_true_eq_false, true_and, and_true, and_self, wrapI64, wrapu64, wrapu32, wrapu8, ltT, ltF, leT, leF, eqF, eqT, nltT, nleT, neqFn, hrow, bXor8]
    exact ⟨k + 1, hkl, by omega, ent_drop ⟨rfl, rfl, rfl, rfl, trivial⟩ ⟨congrArg (fun r => some (Blk.rows 5 1 N c' r)) hup, trivial⟩ (by simp)⟩
  · have : k = N := by omega
    subst this
    have hall : xk Pd y k = wth (bl s) y := by rw [hw, ← hN, xk_all]
    have hwl : (wth (bl s) y).length = k := by rw [hw, List.length_map, hN]
    have hby := byL_br (L := wth (bl s) y) (n := k) (i := 0) (by omega)
    rw [List.drop_zero, List.take_of_length_le (by omega)] at hby
    rw [hall]
    simp (disch := omega) only [go_sem, ↓reduceIte, Nat.reduceEqDiff, Nat.reduceLT, Nat.reduceLeDiff, Nat.reduceAdd, Nat.reduceMul, Nat.reduceSub, Nat.reduceDiv, Nat.reduceMod, Int.reduceToNat, Int.reduceLT, Int.reduceLE, Int.reduceAdd, Int.reduceSub, Int.reduceMul, Int.reduceEq, Int.reduceNeg, reduceCtorEq, or_false, false_or, decide_true, decide_false, Int.cast_ofNat_Int, Nat.zero_add, Nat.add_zero, Int.toNat_natCast, Option.isNone_none, Option.isNone_some, Bool.not_true, Bool.not_false, Bool.xor_true, Bool.xor_false, Bool.true_xor, Bool.false_xor, decide_true, decide_false, Bool.and_true, Bool.true_and, Bool.and_false, Bool.false_and, eq_self, ne_eq, not_false_eq_true, not_true_eq_false, true_and, and_true, and_self, wrapI64, wrapu64, wrapu32, wrapu8, ltT, ltF, leT, leF, eqF, eqT, nltT, nleT, neqFn, hby, strB_map]
    exact fun ρ a w hs _ => ⟨rfl, hs.grown⟩
section
variable {C : Cx} {fr : List (Nat × SV)} {hp : List (Nat × Blk)} {nx : Nat} {d : Option Tmp} {K : St → Prop}
theorem with_s {s : ByteArray} (hs : s.size ≤ 64) (y : Nat) {m : Int} (hm : m = (y : Int)) (h : dOk C.N d ∧ kput K ⟨fr, hp, nx⟩ d (.c (.v (.string (strN (wth (bl s) y)))))) : SCall Try.prog C 84 [.c (.v (.string s)), .c (.v (.int .u8 m))] d K ⟨fr, hp, nx⟩ := by
  subst hm
  exact scall_pure [.string s, .int .u8 (y : Int)] _ (.string (strN (wth (bl s) y))) Try.call84 (with_c s hs y) rfl (fun _ => rfl) (fun _ => rfl) h
theorem ssum_s {s : ByteArray} (hs : s.size ≤ 4611686018427387000) (h : dOk C.N d ∧ kput K ⟨fr, hp, nx⟩ d (.c (.v (.string (strN (shaL (bl s))))))) : SCall Try.prog C 83 [.c (.v (.string s))] d K ⟨fr, hp, nx⟩ :=
  scall_pure [.string s] _ (.string (strN (shaL (bl s)))) Try.call83 (ssum_c s hs) rfl (fun _ => rfl) (fun _ => rfl) h
end
theorem wth_len {k : List Nat} (h : k.length ≤ 64) (y : Nat) : (wth k y).length = 64 := by simp [wth]; omega
theorem wth_lt {k : List Nat} {y x : Nat} (h : x ∈ wth k y) : x < 256 := by
  obtain ⟨b, _, rfl⟩ := List.mem_map.1 h
  exact Nat.mod_lt _ (by omega)
set_option maxRecDepth 100000 in
theorem msum_c (k s : ByteArray) (hk : k.size ≤ 4611686018427387000) (hs : s.size ≤ 4611686018427386000) (w : World) : Calls Try.prog 39 #[.string k, .string s] w fun e w' => e = .returned (.string (strN (hmL (bl k) (bl s)))) ∧ Below w.heap.size w w' := by
  refine calls_pure 19 _ Try.func39 rfl Try.ntmps39 Try.results39 [.c (.v (.string k)), .c (.v (.string s))] (by simp) (fun _ => rfl) ?_
  have main : ∀ q : ByteArray, bl q = hmK (bl k) → q.size ≤ 64 → ∀ y, bl (strN (wth (bl q) y)) = wth (hmK (bl k)) y ∧ (strN (wth (bl q) y)).size = 64 := fun q hq hl y => by
    refine ⟨by rw [bl_strN fun x hx => wth_lt hx, hq], ?_⟩
    rw [strN_size, wth_len (by rw [bl_len]; exact hl)]
  have fin : ∀ q : ByteArray, bl q = hmK (bl k) → q.size ≤ 64 → (strN (wth (bl q) 54)).size + s.size ≤ 9223372036854775807 ∧ bl (strN (wth (bl q) 54) ++ s) = wth (hmK (bl k)) 54 ++ bl s ∧ (strN (wth (bl q) 54) ++ s).size ≤ 4611686018427387000 := fun q hq hl => by
    obtain ⟨h1, h2⟩ := main q hq hl 54
    refine ⟨by omega, by rw [bl_app, h1], by rw [ByteArray.size_append]; omega⟩
  have fin2 : ∀ q : ByteArray, bl q = hmK (bl k) → q.size ≤ 64 → ∀ t, (strN (wth (bl q) 92)).size + (strN (shaL t)).size ≤ 9223372036854775807 ∧ bl (strN (wth (bl q) 92) ++ strN (shaL t)) = wth (hmK (bl k)) 92 ++ shaL t ∧ (strN (wth (bl q) 92) ++ strN (shaL t)).size ≤ 4611686018427387000 := fun q hq hl t => by
    obtain ⟨h1, h2⟩ := main q hq hl 92
    have h3 := strN_size (shaL t)
    rw [shaL_len] at h3
    refine ⟨by omega, by rw [bl_app, h1, bl_strN (shaL_lt t)], by rw [ByteArray.size_append]; omega⟩
  by_cases hk64 : 64 < k.size
  · have hK : hmK (bl k) = shaL (bl k) := by unfold hmK; rw [if_pos (by rw [bl_len]; exact hk64)]
    have hq : bl (strN (shaL (bl k))) = hmK (bl k) := by rw [hK, bl_strN (shaL_lt _)]
    have hql : (strN (shaL (bl k))).size ≤ 64 := by rw [strN_size, shaL_len]; omega
    obtain ⟨f1, f2, f3⟩ := fin _ hq hql
    simp (disch := omega) only [go_sem, ↓reduceIte, Nat.reduceEqDiff, Nat.reduceLT, Nat.reduceLeDiff, Nat.reduceAdd, Nat.reduceMul, Nat.reduceSub, Nat.reduceDiv, Nat.reduceMod, Int.reduceToNat, Int.reduceLT, Int.reduceLE, Int.reduceAdd, Int.reduceSub, Int.reduceMul, Int.reduceEq, Int.reduceNeg, reduceCtorEq, or_false, false_or, decide_true, decide_false, Int.cast_ofNat_Int, Nat.zero_add, Nat.add_zero, Int.toNat_natCast, Option.isNone_none, Option.isNone_some, Bool.not_true, Bool.not_false, Bool.xor_true, Bool.xor_false, Bool.true_xor, Bool.false_xor, decide_true, decide_false, Bool.and_true, Bool.true_and, Bool.and_false, Bool.false_and, eq_self, ne_eq, not_false_eq_true, not_true_eq_false, true_and, and_true, and_self, wrapI64, wrapu64, wrapu32, wrapu8, ltT, ltF, leT, leF, eqF, eqT, nltT, nleT, neqFn]
    refine ssum_s hk ?_
    obtain ⟨q, hqq⟩ : ∃ q, strN (shaL (bl k)) = q := ⟨_, rfl⟩
    rw [hqq] at hq hql f1 f2 f3 ⊢
    simp (disch := omega) only [go_sem, ↓reduceIte, Nat.reduceEqDiff, Nat.reduceLT, Nat.reduceLeDiff, Nat.reduceAdd, Nat.reduceMul, Nat.reduceSub, Nat.reduceDiv, Nat.reduceMod, Int.reduceToNat, Int.reduceLT, Int.reduceLE, Int.reduceAdd, Int.reduceSub, Int.reduceMul, Int.reduceEq, Int.reduceNeg, reduceCtorEq, or_false, false_or, decide_true, decide_false, Int.cast_ofNat_Int, Nat.zero_add, Nat.add_zero, Int.toNat_natCast, Option.isNone_none, Option.isNone_some, Bool.not_true, Bool.not_false, Bool.xor_true, Bool.xor_false, Bool.true_xor, Bool.false_xor, decide_true, decide_false, Bool.and_true, Bool.true_and, Bool.and_false, Bool.false_and, eq_self, ne_eq, not_false_eq_true, not_true_eq_false, true_and, and_true, and_self, wrapI64, wrapu64, wrapu32, wrapu8, ltT, ltF, leT, leF, eqF, eqT, nltT, nleT, neqFn]
    refine with_s hql 92 rfl ?_
    simp (disch := omega) only [go_sem, ↓reduceIte, Nat.reduceEqDiff, Nat.reduceLT, Nat.reduceLeDiff, Nat.reduceAdd, Nat.reduceMul, Nat.reduceSub, Nat.reduceDiv, Nat.reduceMod, Int.reduceToNat, Int.reduceLT, Int.reduceLE, Int.reduceAdd, Int.reduceSub, Int.reduceMul, Int.reduceEq, Int.reduceNeg, reduceCtorEq, or_false, false_or, decide_true, decide_false, Int.cast_ofNat_Int, Nat.zero_add, Nat.add_zero, Int.toNat_natCast, Option.isNone_none, Option.isNone_some, Bool.not_true, Bool.not_false, Bool.xor_true, Bool.xor_false, Bool.true_xor, Bool.false_xor, decide_true, decide_false, Bool.and_true, Bool.true_and, Bool.and_false, Bool.false_and, eq_self, ne_eq, not_false_eq_true, not_true_eq_false, true_and, and_true, and_self, wrapI64, wrapu64, wrapu32, wrapu8, ltT, ltF, leT, leF, eqF, eqT, nltT, nleT, neqFn]
    refine with_s hql 54 rfl ?_
    simp (disch := omega) only [go_sem, ↓reduceIte, Nat.reduceEqDiff, Nat.reduceLT, Nat.reduceLeDiff, Nat.reduceAdd, Nat.reduceMul, Nat.reduceSub, Nat.reduceDiv, Nat.reduceMod, Int.reduceToNat, Int.reduceLT, Int.reduceLE, Int.reduceAdd, Int.reduceSub, Int.reduceMul, Int.reduceEq, Int.reduceNeg, reduceCtorEq, or_false, false_or, decide_true, decide_false, Int.cast_ofNat_Int, Nat.zero_add, Nat.add_zero, Int.toNat_natCast, Option.isNone_none, Option.isNone_some, Bool.not_true, Bool.not_false, Bool.xor_true, Bool.xor_false, Bool.true_xor, Bool.false_xor, decide_true, decide_false, Bool.and_true, Bool.true_and, Bool.and_false, Bool.false_and, eq_self, ne_eq, not_false_eq_true, not_true_eq_false, true_and, and_true, and_self, wrapI64, wrapu64, wrapu32, wrapu8, ltT, ltF, leT, leF, eqF, eqT, nltT, nleT, neqFn, f1]
    refine ssum_s f3 ?_
    rw [f2]
    obtain ⟨g1, g2, g3⟩ := fin2 q hq hql (wth (hmK (bl k)) 54 ++ bl s)
    simp (disch := omega) only [go_sem, ↓reduceIte, Nat.reduceEqDiff, Nat.reduceLT, Nat.reduceLeDiff, Nat.reduceAdd, Nat.reduceMul, Nat.reduceSub, Nat.reduceDiv, Nat.reduceMod, Int.reduceToNat, Int.reduceLT, Int.reduceLE, Int.reduceAdd, Int.reduceSub, Int.reduceMul, Int.reduceEq, Int.reduceNeg, reduceCtorEq, or_false, false_or, decide_true, decide_false, Int.cast_ofNat_Int, Nat.zero_add, Nat.add_zero, Int.toNat_natCast, Option.isNone_none, Option.isNone_some, Bool.not_true, Bool.not_false, Bool.xor_true, Bool.xor_false, Bool.true_xor, Bool.false_xor, decide_true, decide_false, Bool.and_true, Bool.true_and, Bool.and_false, Bool.false_and, eq_self, ne_eq, not_false_eq_true, not_true_eq_false, true_and, and_true, and_self, wrapI64, wrapu64, wrapu32, wrapu8, ltT, ltF, leT, leF, eqF, eqT, nltT, nleT, neqFn, g1]
    refine ssum_s g3 ?_
    rw [g2]
    simp (disch := omega) only [go_sem, ↓reduceIte, Nat.reduceEqDiff, Nat.reduceLT, Nat.reduceLeDiff, Nat.reduceAdd, Nat.reduceMul, Nat.reduceSub, Nat.reduceDiv, Nat.reduceMod, Int.reduceToNat, Int.reduceLT, Int.reduceLE, Int.reduceAdd, Int.reduceSub, Int.reduceMul, Int.reduceEq, Int.reduceNeg, reduceCtorEq, or_false, false_or, decide_true, decide_false, Int.cast_ofNat_Int, Nat.zero_add, Nat.add_zero, Int.toNat_natCast, Option.isNone_none, Option.isNone_some, Bool.not_true, Bool.not_false, Bool.xor_true, Bool.xor_false, Bool.true_xor, Bool.false_xor, decide_true, decide_false, Bool.and_true, Bool.true_and, Bool.and_false, Bool.false_and, eq_self, ne_eq, not_false_eq_true, not_true_eq_false, true_and, and_true, and_self, wrapI64, wrapu64, wrapu32, wrapu8, ltT, ltF, leT, leF, eqF, eqT, nltT, nleT, neqFn]
    exact fun ρ a w hs _ => ⟨rfl, hs.grown⟩
  · have hK : bl k = hmK (bl k) := by unfold hmK; rw [if_neg (by rw [bl_len]; exact hk64)]
    have hql : k.size ≤ 64 := by omega
    obtain ⟨f1, f2, f3⟩ := fin k hK hql
    obtain ⟨g1, g2, g3⟩ := fin2 k hK hql (wth (hmK (bl k)) 54 ++ bl s)
    simp (disch := omega) only [go_sem, ↓reduceIte, Nat.reduceEqDiff, Nat.reduceLT, Nat.reduceLeDiff, Nat.reduceAdd, Nat.reduceMul, Nat.reduceSub, Nat.reduceDiv, Nat.reduceMod, Int.reduceToNat, Int.reduceLT, Int.reduceLE, Int.reduceAdd, Int.reduceSub, Int.reduceMul, Int.reduceEq, Int.reduceNeg, reduceCtorEq, or_false, false_or, decide_true, decide_false, Int.cast_ofNat_Int, Nat.zero_add, Nat.add_zero, Int.toNat_natCast, Option.isNone_none, Option.isNone_some, Bool.not_true, Bool.not_false, Bool.xor_true, Bool.xor_false, Bool.true_xor, Bool.false_xor, decide_true, decide_false, Bool.and_true, Bool.true_and, Bool.and_false, Bool.false_and, eq_self, ne_eq, not_false_eq_true, not_true_eq_false, true_and, and_true, and_self, wrapI64, wrapu64, wrapu32, wrapu8, ltT, ltF, leT, leF, eqF, eqT, nltT, nleT, neqFn]
    refine with_s hql 92 rfl ?_
    simp (disch := omega) only [go_sem, ↓reduceIte, Nat.reduceEqDiff, Nat.reduceLT, Nat.reduceLeDiff, Nat.reduceAdd, Nat.reduceMul, Nat.reduceSub, Nat.reduceDiv, Nat.reduceMod, Int.reduceToNat, Int.reduceLT, Int.reduceLE, Int.reduceAdd, Int.reduceSub, Int.reduceMul, Int.reduceEq, Int.reduceNeg, reduceCtorEq, or_false, false_or, decide_true, decide_false, Int.cast_ofNat_Int, Nat.zero_add, Nat.add_zero, Int.toNat_natCast, Option.isNone_none, Option.isNone_some, Bool.not_true, Bool.not_false, Bool.xor_true, Bool.xor_false, Bool.true_xor, Bool.false_xor, decide_true, decide_false, Bool.and_true, Bool.true_and, Bool.and_false, Bool.false_and, eq_self, ne_eq, not_false_eq_true, not_true_eq_false, true_and, and_true, and_self, wrapI64, wrapu64, wrapu32, wrapu8, ltT, ltF, leT, leF, eqF, eqT, nltT, nleT, neqFn]
    refine with_s hql 54 rfl ?_
    simp (disch := omega) only [go_sem, ↓reduceIte, Nat.reduceEqDiff, Nat.reduceLT, Nat.reduceLeDiff, Nat.reduceAdd, Nat.reduceMul, Nat.reduceSub, Nat.reduceDiv, Nat.reduceMod, Int.reduceToNat, Int.reduceLT, Int.reduceLE, Int.reduceAdd, Int.reduceSub, Int.reduceMul, Int.reduceEq, Int.reduceNeg, reduceCtorEq, or_false, false_or, decide_true, decide_false, Int.cast_ofNat_Int, Nat.zero_add, Nat.add_zero, Int.toNat_natCast, Option.isNone_none, Option.isNone_some, Bool.not_true, Bool.not_false, Bool.xor_true, Bool.xor_false, Bool.true_xor, Bool.false_xor, decide_true, decide_false, Bool.and_true, Bool.true_and, Bool.and_false, Bool.false_and, eq_self, ne_eq, not_false_eq_true, not_true_eq_false, true_and, and_true, and_self, wrapI64, wrapu64, wrapu32, wrapu8, ltT, ltF, leT, leF, eqF, eqT, nltT, nleT, neqFn, f1]
    refine ssum_s f3 ?_
    rw [f2]
    simp (disch := omega) only [go_sem, ↓reduceIte, Nat.reduceEqDiff, Nat.reduceLT, Nat.reduceLeDiff, Nat.reduceAdd, Nat.reduceMul, Nat.reduceSub, Nat.reduceDiv, Nat.reduceMod, Int.reduceToNat, Int.reduceLT, Int.reduceLE, Int.reduceAdd, Int.reduceSub, Int.reduceMul, Int.reduceEq, Int.reduceNeg, reduceCtorEq, or_false, false_or, decide_true, decide_false, Int.cast_ofNat_Int, Nat.zero_add, Nat.add_zero, Int.toNat_natCast, Option.isNone_none, Option.isNone_some, Bool.not_true, Bool.not_false, Bool.xor_true, Bool.xor_false, Bool.true_xor, Bool.false_xor, decide_true, decide_false, Bool.and_true, Bool.true_and, Bool.and_false, Bool.false_and, eq_self, ne_eq, not_false_eq_true, not_true_eq_false, true_and, and_true, and_self, wrapI64, wrapu64, wrapu32, wrapu8, ltT, ltF, leT, leF, eqF, eqT, nltT, nleT, neqFn, g1]
    refine ssum_s g3 ?_
    rw [g2]
    simp (disch := omega) only [go_sem, ↓reduceIte, Nat.reduceEqDiff, Nat.reduceLT, Nat.reduceLeDiff, Nat.reduceAdd, Nat.reduceMul, Nat.reduceSub, Nat.reduceDiv, Nat.reduceMod, Int.reduceToNat, Int.reduceLT, Int.reduceLE, Int.reduceAdd, Int.reduceSub, Int.reduceMul, Int.reduceEq, Int.reduceNeg, reduceCtorEq, or_false, false_or, decide_true, decide_false, Int.cast_ofNat_Int, Nat.zero_add, Nat.add_zero, Int.toNat_natCast, Option.isNone_none, Option.isNone_some, Bool.not_true, Bool.not_false, Bool.xor_true, Bool.xor_false, Bool.true_xor, Bool.false_xor, decide_true, decide_false, Bool.and_true, Bool.true_and, Bool.and_false, Bool.false_and, eq_self, ne_eq, not_false_eq_true, not_true_eq_false, true_and, and_true, and_self, wrapI64, wrapu64, wrapu32, wrapu8, ltT, ltF, leT, leF, eqF, eqT, nltT, nleT, neqFn]
    exact fun ρ a w hs _ => ⟨rfl, hs.grown⟩
theorem msum_s {C : Cx} {fr : List (Nat × SV)} {hp : List (Nat × Blk)} {nx : Nat} {d : Option Tmp} {K : St → Prop} {k s : ByteArray} (hk : k.size ≤ 4611686018427387000) (hs : s.size ≤ 4611686018427386000) (h : dOk C.N d ∧ kput K ⟨fr, hp, nx⟩ d (.c (.v (.string (strN (hmL (bl k) (bl s))))))) : SCall Try.prog C 39 [.c (.v (.string k)), .c (.v (.string s))] d K ⟨fr, hp, nx⟩ :=
  scall_pure [.string k, .string s] _ (.string (strN (hmL (bl k) (bl s)))) Try.call39 (msum_c k s hk hs) rfl (fun _ => rfl) (fun _ => rfl) h
end Go.Proofs.Ytbdffcgbleiiaaa
