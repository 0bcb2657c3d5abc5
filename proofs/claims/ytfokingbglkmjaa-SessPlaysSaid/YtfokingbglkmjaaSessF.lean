/-
  What one session writes no other one has; what it wrote last of a key it has, once; ended, it has nothing. Conditions: none.
-/
import Derived.Test.YtfokingbglkmjaaSessE
import Derived.Test.YtfokingbglkmjaaSx14
namespace Go.Proofs.Ytfokingbglkmjaa
open Go.RowKit Go.Sx
set_option linter.unusedVariables false
set_option linter.unusedSimpArgs false
set_option linter.unusedSectionVars false

def oT (x y : Nat) (s : V4) (ws : List Wr) : Nat → One := fun i => if i = x then ⟨z4, some (s, ws)⟩ else if i = y then ⟨z4, some (s, [])⟩ else none1
theorem oT_x (x y : Nat) (s : V4) (ws : List Wr) : oT x y s ws x = ⟨z4, some (s, ws)⟩ := by simp [oT]
theorem oT_upd (x y : Nat) (s : V4) (ws ws' : List Wr) : upd (oT x y s ws) x ⟨z4, some (s, ws')⟩ = oT x y s ws' := by
  funext i; simp only [upd, oT]; split <;> rfl
section
variable {x y : Nat} (hx : 1 ≤ x ∧ x ≤ 8) (hy : 1 ≤ y ∧ y ≤ 8) {s : V4}
include hx
theorem inS_of' : inS x = true := by rw [inS_n]; simp; omega
theorem o_begin1 (hr : s.right = true) : beginE (fun _ => none1) x s = 0 ∧ beginT (fun _ => none1) x s = oT x x s [] := by
  unfold beginE beginT
  rw [inS_of' hx, hr]
  refine ⟨rfl, ?_⟩
  rw [if_pos (by rfl), Int.toNat_natCast]
  funext i; simp only [upd, oT]; split <;> rfl
theorem o_begin0 (hr : s.right = false) : beginE (fun _ => none1) x s = 1 ∧ beginT (fun _ => none1) x s = fun _ => none1 := by
  unfold beginE beginT
  rw [hr]; simp
include hy
theorem o_begin2 (hr : s.right = true) (hxy : x ≠ y) : beginE (oT x x s []) y s = 0 ∧ beginT (oT x x s []) y s = oT x y s [] := by
  have h1 : oT x x s [] y = none1 := by simp [oT, Ne.symm hxy]
  unfold beginE beginT
  rw [inS_of' hy, hr, Int.toNat_natCast, h1]
  refine ⟨rfl, ?_⟩
  rw [if_pos (by rfl)]
  funext i; simp only [upd, oT]
  by_cases h2 : i = y
  · subst h2; simp [Ne.symm hxy, none1, z4]
  · simp [h2]; intro a b; exact absurd a b
omit hy
theorem o_write (ws : List Wr) (W : Wr) : writeE (oT x y s ws) x W = (if W.right then (if fits ws W then 0 else 4) else 1) ∧ writeT (oT x y s ws) x W = oT x y s (if W.right && fits ws W then putW ws W else ws) := by
  have h1 : (oT x y s ws x).is = true := by rw [oT_x]; rfl
  have h2 : (oT x y s ws x).ws = ws := by rw [oT_x]; rfl
  have h3 : (oT x y s ws x).sn = s := by rw [oT_x]; rfl
  have h4 : (oT x y s ws x).seen = z4 := by rw [oT_x]
  unfold writeE writeT
  rw [inS_of' hx, Int.toNat_natCast, h1, h2, h3, h4]
  refine ⟨by simp, ?_⟩
  cases hb : (W.right && fits ws W)
  · simp [hb]
  · simp [hb]; exact oT_upd ..
theorem o_ws (ws : List Wr) : isWs (oT x y s ws) x = ws := by
  unfold isWs
  rw [inS_of' hx, Int.toNat_natCast, oT_x]; rfl
theorem o_own (ws : List Wr) (b k : ByteArray) : ownW (oT x y s ws) x b k = ws.find? (hit b k) := by
  unfold ownW; rw [o_ws hx]
theorem o_end (ws : List Wr) : endE (oT x y s ws) x = 0 ∧ isWs (endT (oT x y s ws) x) x = [] ∧ endE (endT (oT x y s ws) x) x = 5 := by
  have h1 : (oT x y s ws x).is = true := by rw [oT_x]; rfl
  have h2 : endT (oT x y s ws) x = upd (oT x y s ws) x ⟨z4, none⟩ := by
    unfold endT; rw [inS_of' hx, Int.toNat_natCast, h1, if_pos (by rfl)]
    have h4 : (oT x y s ws x).seen = z4 := by rw [oT_x]
    rw [h4]
  refine ⟨?_, ?_, ?_⟩
  · unfold endE; rw [inS_of' hx, Int.toNat_natCast, h1]; rfl
  · rw [h2]; unfold isWs; rw [inS_of' hx, Int.toNat_natCast, upd_same]; rfl
  · rw [h2]; unfold endE; rw [inS_of' hx, Int.toNat_natCast, upd_same]; rfl
include hy
theorem o_other (ws : List Wr) (b k : ByteArray) : (ownW (oT x y s ws) y b k) = if x = y then ws.find? (hit b k) else none := by
  by_cases h : x = y
  · subst h; rw [o_own hx, if_pos rfl]
  · rw [if_neg h]
    unfold ownW isWs
    rw [inS_of' hy, Int.toNat_natCast]
    have : oT x y s ws y = ⟨z4, some (s, [])⟩ := by simp [oT, Ne.symm h]
    rw [this]; rfl
end
/-- Each right, each of a key of its own, not too many. -/
def Fine (ws : List Wr) : Prop := (∀ w, w ∈ ws → w.right = true) ∧ ws.Pairwise (fun a b => hit a.b a.k b = false) ∧ ws.length ≤ 8
theorem hit_self (W : Wr) : hit W.b W.k W = true := by simp [hit]
theorem hit_trans {b k : ByteArray} {u v : Wr} (h : hit b k u = true) : hit u.b u.k v = hit b k v := by
  simp [hit] at h; obtain ⟨rfl, rfl⟩ := h; rfl
theorem hit_symm {u v : Wr} : hit u.b u.k v = hit v.b v.k u := by
  simp only [hit]; congr 1 <;> exact decide_eq_decide.2 eq_comm
theorem put_find (ws : List Wr) (W : Wr) : (putW ws W).find? (hit W.b W.k) = some W := by
  unfold putW
  cases h : ws.findIdx? (hit W.b W.k) with
  | none =>
    simp only
    rw [List.find?_append, List.find?_eq_none.2]
    · simp [hit_self]
    · intro x hx; rw [List.findIdx?_eq_none_iff] at h; simp [h x hx]
  | some i =>
    simp only
    obtain ⟨hl, he, hno⟩ := List.findIdx?_eq_some_iff_getElem.1 h
    rw [List.find?_eq_some_iff_getElem]
    refine ⟨hit_self W, i, by simpa using hl, by simp, fun j hj => ?_⟩
    rw [List.getElem_set_ne (by omega)]
    simpa using hno j hj
theorem put_fine {ws : List Wr} {W : Wr} (h : Fine ws) (hr : W.right = true) (hf : fits ws W = true) : Fine (putW ws W) := by
  obtain ⟨h1, h2, h3⟩ := h
  unfold putW
  cases hi : ws.findIdx? (hit W.b W.k) with
  | none =>
    simp [fits, hi] at hf
    refine ⟨fun w hw => ?_, ?_, by simp; omega⟩
    · rcases List.mem_append.1 hw with hw | hw
      · exact h1 w hw
      · simp at hw; rw [hw]; exact hr
    · rw [List.pairwise_append]
      refine ⟨h2, by simp, fun a ha b hb => ?_⟩
      simp at hb; subst hb
      rw [hit_symm]
      exact List.findIdx?_eq_none_iff.1 hi a ha
  | some i =>
    obtain ⟨hl, he, hno⟩ := List.findIdx?_eq_some_iff_getElem.1 hi
    refine ⟨fun w hw => ?_, ?_, by simpa using h3⟩
    · rcases List.mem_or_eq_of_mem_set hw with hw | rfl
      · exact h1 w hw
      · exact hr
    · show (ws.set i W).Pairwise _
      rw [List.pairwise_iff_getElem] at h2 ⊢
      intro a b ha hb hab
      have ha' : a < ws.length := by simpa using ha
      have hb' : b < ws.length := by simpa using hb
      have hk : ∀ v, hit W.b W.k v = hit ws[i].b ws[i].k v := fun v => (hit_trans he).symm
      by_cases hai : a = i
      · subst hai
        rw [List.getElem_set_self, List.getElem_set_ne (by omega)]
        rw [hk]; exact h2 a b ha' hb' hab
      · by_cases hbi : b = i
        · subst hbi
          rw [List.getElem_set_self, List.getElem_set_ne (by omega), hit_symm, hk, hit_symm]
          exact h2 a b ha' hb' hab
        · rw [List.getElem_set_ne (by omega), List.getElem_set_ne (by omega)]
          exact h2 a b ha' hb' hab
theorem fine_find {ws : List Wr} {i : Nat} {W : Wr} (hi : ws[i]? = some W) : (ws.find? (hit W.b W.k)).isSome = true := by
  rw [List.find?_isSome]
  exact ⟨W, List.mem_of_getElem? hi, hit_self W⟩
theorem fine_apart {ws : List Wr} (h : Fine ws) {i k : Nat} {u v : Wr} (hk : k < i) (hu : ws[k]? = some u) (hv : ws[i]? = some v) : (decide (u.b = v.b) && decide (u.k = v.k)) = false := by
  obtain ⟨h1, rfl⟩ := List.getElem?_eq_some_iff.1 hu
  obtain ⟨h2, rfl⟩ := List.getElem?_eq_some_iff.1 hv
  have := (List.pairwise_iff_getElem.1 h.2.1) k i h1 h2 hk
  rw [hit_symm] at this
  exact this

theorem u8_mod8 (a : Nat) (ha : a < 256) : IntKind.i64.wrap (1 + IntKind.i64.wrap ((a : Int).tmod 8)) = ((1 + a % 8 : Nat) : Int) := by
  rw [show (a : Int).tmod 8 = ((a % 8 : Nat) : Int) from rfl, wrap_i64 ((a % 8 : Nat) : Int) (by omega) (by omega), wrap_i64 _ (by omega) (by omega)]; omega

/-- A list, or nothing, as block 'n'. -/
def oF (n : Nat) (wl : List Wr) : Option Nat → CV
  | none => .v (.slice none 0 0)
  | some c => .s n 0 wl.length c
def oH (n : Nat) (wl : List Wr) : Option Nat → List (Nat × Blk)
  | none => []
  | some c => [(n, .rows 41 4 wl.length c fun j => (wrow wl j).map .v)]
theorem oF_len {n : Nat} {wl : List Wr} {c : Option Nat} (h : outOk wl c) (e : TypeId) (F : SV → Prop) : XLen (.slc e) (.c (oF n wl c)) F = F (.c (.v (.int .i64 wl.length))) := by
  cases c with
  | none => have h : wl = [] := h; subst h; rfl
  | some c => rfl
def oSt (x y g : Nat) (s : V4) (i : Nat) (wl : List Wr) (c : Option Nat) (ws : List Wr) (fp : List Nat) : St :=
  ⟨[(15, .c (.v (.int .i64 i))), (14, .c (oF 4 wl c)), (12, .c (.v (.int .i64 y))), (11, .c (.v (.int .i64 x))), (10, .c (.v (ptr g))), (9, .c (.v (.bool true)))], oH 4 wl c ++ [(2, .pred fp (TabIs g (oT x y s ws) fp))], 5⟩
def oSt2 (x y g : Nat) (s : V4) (i : Nat) (ws : List Wr) (c : Option Nat) (fp : List Nat) : St :=
  ⟨[(20, .c (.v (.int .i64 i))), (19, .c (oF 5 ws c)), (12, .c (.v (.int .i64 y))), (11, .c (.v (.int .i64 x))), (10, .c (.v (ptr g))), (9, .c (.v (.bool true)))], oH 5 ws c ++ [(2, .pred fp (TabIs g (oT x y s ws) fp))], 6⟩

set_option maxHeartbeats 4000000 in
set_option maxRecDepth 100000 in
theorem sessOwn_c (w : World) (a b : Nat) (ha : a < 256) (hb : b < 256) {b0 o0 m0 : Nat} {r0 : Nat → List Value} {x0 : CV} {v0 : Value} (i0 : ImmAt w b0 o0 6 m0 r0) (l0 : LArg 0 m0 x0)
    (e0 : ∀ ρ : Env, ρ 0 = ⟨b0, o0, 6⟩ → x0.den ρ = v0) (f0 : ∀ i, i < m0 → FOk [.s, .s, .s, .b, .b, .i .u8] (r0 i)) (hm0 : m0 ≤ maxLen) (v : V4) (own : Bool) :
    Calls Try.prog 4 #[.int .u8 a, .int .u8 b, v0, .agg #[vu v.a, vu v.b, vu v.c, vu v.d, .bool own]] w fun e w' => e = .returned (.bool true) ∧ Below w.heap.size w w' := by
  refine calls_imm [⟨b0, o0, 6, m0, r0⟩] (by simp; exact i0) 225 _ Try.func4 rfl Try.ntmps4 Try.results4 [.c (.v (.int .u8 a)), .c (.v (.int .u8 b)), .c x0, .agg [cu v.a, cu v.b, cu v.c, cu v.d, .v (.bool own)]] (by simp) (fun ρ h => by simp [SV.denL, SV.den, CV.denL, CV.den, e0 ρ (h 0 (by simp))]) ?_
  have n0 := l0.len
  simp only [immL, List.length_cons, List.length_nil, Nat.zero_add, Nat.reduceAdd]
  have hx1 := u8_mod8 a ha
  have hy1 := u8_mod8 b hb
  have hx : 1 ≤ 1 + a % 8 ∧ 1 + a % 8 ≤ 8 := by omega
  have hy : 1 ≤ 1 + b % 8 ∧ 1 + b % 8 ≤ 8 := by omega
  generalize 1 + a % 8 = x at hx1 hx
  generalize 1 + b % 8 = y at hy1 hy
  simp only [go_sem, ↓reduceIte, Nat.reduceEqDiff, Nat.reduceLT, Nat.reduceLeDiff, Nat.reduceAdd, Nat.reduceMul, Nat.reduceSub, Nat.reduceDiv, Nat.reduceMod, Int.reduceToNat, Int.reduceLT, Int.reduceLE, Int.reduceAdd, Int.reduceSub, Int.reduceMul, Int.reduceEq, Int.reduceNeg, reduceCtorEq, or_false, false_or, decide_true, decide_false, Int.cast_ofNat_Int, Nat.zero_add, Nat.add_zero, Int.toNat_natCast, Option.isNone_none, Option.isNone_some, Bool.not_true, Bool.not_false, Bool.xor_true, Bool.xor_false, Bool.true_xor, Bool.false_xor, decide_true, decide_false, Bool.and_true, Bool.true_and, Bool.and_false, Bool.false_and, eq_self, ne_eq, not_false_eq_true, not_true_eq_false, true_and, and_true, and_self]
  refine scall_pure [] (.c (.v (.bool true))) (.bool true) Try.call15 ex_c rfl (fun _ => rfl) (fun _ => rfl) ?_
  simp only [go_sem, ↓reduceIte, Nat.reduceEqDiff, Nat.reduceLT, Nat.reduceLeDiff, Nat.reduceAdd, Nat.reduceMul, Nat.reduceSub, Nat.reduceDiv, Nat.reduceMod, Int.reduceToNat, Int.reduceLT, Int.reduceLE, Int.reduceAdd, Int.reduceSub, Int.reduceMul, Int.reduceEq, Int.reduceNeg, reduceCtorEq, or_false, false_or, decide_true, decide_false, Int.cast_ofNat_Int, Nat.zero_add, Nat.add_zero, Int.toNat_natCast, Option.isNone_none, Option.isNone_some, Bool.not_true, Bool.not_false, Bool.xor_true, Bool.xor_false, Bool.true_xor, Bool.false_xor, decide_true, decide_false, Bool.and_true, Bool.true_and, Bool.and_false, Bool.false_and, eq_self, ne_eq, not_false_eq_true, not_true_eq_false, true_and, and_true, and_self]
  refine tab_new [] Try.call16 new_c rfl (fun _ => rfl) rfl fun g fp0 => ?_
  simp only [go_sem, ↓reduceIte, Nat.reduceEqDiff, Nat.reduceLT, Nat.reduceLeDiff, Nat.reduceAdd, Nat.reduceMul, Nat.reduceSub, Nat.reduceDiv, Nat.reduceMod, Int.reduceToNat, Int.reduceLT, Int.reduceLE, Int.reduceAdd, Int.reduceSub, Int.reduceMul, Int.reduceEq, Int.reduceNeg, reduceCtorEq, or_false, false_or, decide_true, decide_false, Int.cast_ofNat_Int, Nat.zero_add, Nat.add_zero, Int.toNat_natCast, Option.isNone_none, Option.isNone_some, Bool.not_true, Bool.not_false, Bool.xor_true, Bool.xor_false, Bool.true_xor, Bool.false_xor, decide_true, decide_false, Bool.and_true, Bool.true_and, Bool.and_false, Bool.false_and, eq_self, ne_eq, not_false_eq_true, not_true_eq_false, true_and, and_true, and_self, hx1, hy1]
  obtain ⟨s, hs0⟩ : ∃ s, s = few v own := ⟨_, rfl⟩
  refine scall_pure [.agg #[vu v.a, vu v.b, vu v.c, vu v.d, .bool own]] (sv4 s.a s.b s.c s.d) s.v Try.call17 (fun w => by rw [hs0]; exact vector_c v own w) rfl (fun _ => rfl) (fun _ => rfl) ?_
  clear hs0
  simp only [go_sem, ↓reduceIte, Nat.reduceEqDiff, Nat.reduceLT, Nat.reduceLeDiff, Nat.reduceAdd, Nat.reduceMul, Nat.reduceSub, Nat.reduceDiv, Nat.reduceMod, Int.reduceToNat, Int.reduceLT, Int.reduceLE, Int.reduceAdd, Int.reduceSub, Int.reduceMul, Int.reduceEq, Int.reduceNeg, reduceCtorEq, or_false, false_or, decide_true, decide_false, Int.cast_ofNat_Int, Nat.zero_add, Nat.add_zero, Int.toNat_natCast, Option.isNone_none, Option.isNone_some, Bool.not_true, Bool.not_false, Bool.xor_true, Bool.xor_false, Bool.true_xor, Bool.false_xor, decide_true, decide_false, Bool.and_true, Bool.true_and, Bool.and_false, Bool.false_and, eq_self, ne_eq, not_false_eq_true, not_true_eq_false, true_and, and_true, and_self]
  refine scall_pure [s.v] (.c (.v (.bool s.right))) (.bool s.right) Try.call40 (right_c s) rfl (fun _ => rfl) (fun _ => rfl) ?_
  cases hr : s.right
  · simp only [go_sem, ↓reduceIte, Nat.reduceEqDiff, Nat.reduceLT, Nat.reduceLeDiff, Nat.reduceAdd, Nat.reduceMul, Nat.reduceSub, Nat.reduceDiv, Nat.reduceMod, Int.reduceToNat, Int.reduceLT, Int.reduceLE, Int.reduceAdd, Int.reduceSub, Int.reduceMul, Int.reduceEq, Int.reduceNeg, reduceCtorEq, or_false, false_or, decide_true, decide_false, Int.cast_ofNat_Int, Nat.zero_add, Nat.add_zero, Int.toNat_natCast, Option.isNone_none, Option.isNone_some, Bool.not_true, Bool.not_false, Bool.xor_true, Bool.xor_false, Bool.true_xor, Bool.false_xor, decide_true, decide_false, Bool.and_true, Bool.true_and, Bool.and_false, Bool.false_and, eq_self, ne_eq, not_false_eq_true, not_true_eq_false, true_and, and_true, and_self]
    obtain ⟨q1, q2⟩ := o_begin0 (s := s) hx hr
    refine tab_call 2 (T := fun _ => none1) (T' := fun _ => none1) (v := .int .i64 1) [ptr g, .int .i64 x, s.v] (.c (.v (.int .i64 1))) Try.call19 (fun w h => by have := begin_c g _ _ x s w h; rw [q1, q2] at this; exact this) rfl rfl (fun _ => rfl) (fun _ => rfl) rfl fun fp1 => ?_
    simp only [go_sem, ↓reduceIte, Nat.reduceEqDiff, Nat.reduceLT, Nat.reduceLeDiff, Nat.reduceAdd, Nat.reduceMul, Nat.reduceSub, Nat.reduceDiv, Nat.reduceMod, Int.reduceToNat, Int.reduceLT, Int.reduceLE, Int.reduceAdd, Int.reduceSub, Int.reduceMul, Int.reduceEq, Int.reduceNeg, reduceCtorEq, or_false, false_or, decide_true, decide_false, Int.cast_ofNat_Int, Nat.zero_add, Nat.add_zero, Int.toNat_natCast, Option.isNone_none, Option.isNone_some, Bool.not_true, Bool.not_false, Bool.xor_true, Bool.xor_false, Bool.true_xor, Bool.false_xor, decide_true, decide_false, Bool.and_true, Bool.true_and, Bool.and_false, Bool.false_and, eq_self, ne_eq, not_false_eq_true, not_true_eq_false, true_and, and_true, and_self]
    refine tab_call 2 (T := fun _ => none1) (T' := fun _ => none1) (v := .int .i64 0) [ptr g] (.c (.v (.int .i64 0))) Try.call38 (fun w h => by have := many_c g _ _ w h; rw [show manyN (fun _ => none1) 9 = 0 from by decide] at this; exact this) rfl rfl (fun _ => rfl) (fun _ => rfl) rfl fun fp2 => ?_
    simp only [go_sem, ↓reduceIte, Nat.reduceEqDiff, Nat.reduceLT, Nat.reduceLeDiff, Nat.reduceAdd, Nat.reduceMul, Nat.reduceSub, Nat.reduceDiv, Nat.reduceMod, Int.reduceToNat, Int.reduceLT, Int.reduceLE, Int.reduceAdd, Int.reduceSub, Int.reduceMul, Int.reduceEq, Int.reduceNeg, reduceCtorEq, or_false, false_or, decide_true, decide_false, Int.cast_ofNat_Int, Nat.zero_add, Nat.add_zero, Int.toNat_natCast, Option.isNone_none, Option.isNone_some, Bool.not_true, Bool.not_false, Bool.xor_true, Bool.xor_false, Bool.true_xor, Bool.false_xor, decide_true, decide_false, Bool.and_true, Bool.true_and, Bool.and_false, Bool.false_and, eq_self, ne_eq, not_false_eq_true, not_true_eq_false, true_and, and_true, and_self]
    exact fun ρ a w hs _ => ⟨rfl, hs.grown⟩
  · simp only [go_sem, ↓reduceIte, Nat.reduceEqDiff, Nat.reduceLT, Nat.reduceLeDiff, Nat.reduceAdd, Nat.reduceMul, Nat.reduceSub, Nat.reduceDiv, Nat.reduceMod, Int.reduceToNat, Int.reduceLT, Int.reduceLE, Int.reduceAdd, Int.reduceSub, Int.reduceMul, Int.reduceEq, Int.reduceNeg, reduceCtorEq, or_false, false_or, decide_true, decide_false, Int.cast_ofNat_Int, Nat.zero_add, Nat.add_zero, Int.toNat_natCast, Option.isNone_none, Option.isNone_some, Bool.not_true, Bool.not_false, Bool.xor_true, Bool.xor_false, Bool.true_xor, Bool.false_xor, decide_true, decide_false, Bool.and_true, Bool.true_and, Bool.and_false, Bool.false_and, eq_self, ne_eq, not_false_eq_true, not_true_eq_false, true_and, and_true, and_self]
    obtain ⟨q1, q2⟩ := o_begin1 (s := s) hx hr
    refine tab_call 2 (T := fun _ => none1) (T' := oT x x s []) (v := .int .i64 0) [ptr g, .int .i64 x, s.v] (.c (.v (.int .i64 0))) Try.call19 (fun w h => by have := begin_c g _ _ x s w h; rw [q1, q2] at this; exact this) rfl rfl (fun _ => rfl) (fun _ => rfl) rfl fun fp1 => ?_
    apply join (α := List Nat × List Wr × Option Nat) (fun p => outOk p.2.1 p.2.2 ∧ p.2.1.length ≤ 12)
    · intro main
      have put : ∀ i, i < m0 → ∃ p : Pt, p.k < 256 ∧ (r0 i).map CV.v = p.row := fun i hi => row_put (f0 i hi)
      obtain ⟨ps, hps⟩ : ∃ ps : Nat → Pt, ∀ i, i < m0 → (r0 i).map CV.v = (ps i).row ∧ (ps i).k < 256 := ⟨fun i => if h : i < m0 then (put i h).choose else ⟨zw, false, 0⟩, fun i hi => by simp only [hi, dite_true]; exact ⟨(put i hi).choose_spec.2, (put i hi).choose_spec.1⟩⟩
      cases hxy : decide ((x : Int) = y)
      · have hne : x ≠ y := by simp at hxy; omega
        obtain ⟨q3, q4⟩ := o_begin2 hx hy hr hne
        simp only [go_sem, ↓reduceIte, Nat.reduceEqDiff, Nat.reduceLT, Nat.reduceLeDiff, Nat.reduceAdd, Nat.reduceMul, Nat.reduceSub, Nat.reduceDiv, Nat.reduceMod, Int.reduceToNat, Int.reduceLT, Int.reduceLE, Int.reduceAdd, Int.reduceSub, Int.reduceMul, Int.reduceEq, Int.reduceNeg, reduceCtorEq, or_false, false_or, decide_true, decide_false, Int.cast_ofNat_Int, Nat.zero_add, Nat.add_zero, Int.toNat_natCast, Option.isNone_none, Option.isNone_some, Bool.not_true, Bool.not_false, Bool.xor_true, Bool.xor_false, Bool.true_xor, Bool.false_xor, decide_true, decide_false, Bool.and_true, Bool.true_and, Bool.and_false, Bool.false_and, eq_self, ne_eq, not_false_eq_true, not_true_eq_false, true_and, and_true, and_self, hxy]
        refine tab_call 2 (T := oT x x s []) (T' := oT x y s []) (v := .int .i64 0) [ptr g, .int .i64 y, s.v] (.c (.v (.int .i64 0))) Try.call19 (fun w h => by have := begin_c g _ _ y s w h; rw [q3, q4] at this; exact this) rfl rfl (fun _ => rfl) (fun _ => rfl) rfl fun fp2 => ?_
        simp only [go_sem, ↓reduceIte, Nat.reduceEqDiff, Nat.reduceLT, Nat.reduceLeDiff, Nat.reduceAdd, Nat.reduceMul, Nat.reduceSub, Nat.reduceDiv, Nat.reduceMod, Int.reduceToNat, Int.reduceLT, Int.reduceLE, Int.reduceAdd, Int.reduceSub, Int.reduceMul, Int.reduceEq, Int.reduceNeg, reduceCtorEq, or_false, false_or, decide_true, decide_false, Int.cast_ofNat_Int, Nat.zero_add, Nat.add_zero, Int.toNat_natCast, Option.isNone_none, Option.isNone_some, Bool.not_true, Bool.not_false, Bool.xor_true, Bool.xor_false, Bool.true_xor, Bool.false_xor, decide_true, decide_false, Bool.and_true, Bool.true_and, Bool.and_false, Bool.false_and, eq_self, ne_eq, not_false_eq_true, not_true_eq_false, true_and, and_true, and_self]
        refine writes_list 0 rfl l0 ps hps 12 (by omega) hm0 false rfl fun n _ _ hn => ⟨fun hnil => ?_, fun c hc => ?_⟩
        · simp only [go_sem, ↓reduceIte, Nat.reduceEqDiff, Nat.reduceLT, Nat.reduceLeDiff, Nat.reduceAdd, Nat.reduceMul, Nat.reduceSub, Nat.reduceDiv, Nat.reduceMod, Int.reduceToNat, Int.reduceLT, Int.reduceLE, Int.reduceAdd, Int.reduceSub, Int.reduceMul, Int.reduceEq, Int.reduceNeg, reduceCtorEq, or_false, false_or, decide_true, decide_false, Int.cast_ofNat_Int, Nat.zero_add, Nat.add_zero, Int.toNat_natCast, Option.isNone_none, Option.isNone_some, Bool.not_true, Bool.not_false, Bool.xor_true, Bool.xor_false, Bool.true_xor, Bool.false_xor, decide_true, decide_false, Bool.and_true, Bool.true_and, Bool.and_false, Bool.false_and, eq_self, ne_eq, not_false_eq_true, not_true_eq_false, true_and, and_true, and_self]
          obtain ⟨p, hp⟩ : ∃ p : List Nat × List Wr × Option Nat, p = (fp2, [], none) := ⟨_, rfl⟩
          refine SCode_ent (st' := oSt x y g s 0 p.2.1 p.2.2 [] p.1) ?_ (main p (by rw [hp]; exact ⟨rfl, by simp⟩))
          rw [hp]
          exact ent_low ⟨rfl, rfl, rfl, rfl, rfl, rfl, trivial⟩ ⟨rfl, trivial⟩ (by simp [oH]) (by simp [frBl, SV.bl, CV.bl, oF]) (by simp [hpBl, Blk.bl, oH]) (by simp)
        · simp only [go_sem, ↓reduceIte, Nat.reduceEqDiff, Nat.reduceLT, Nat.reduceLeDiff, Nat.reduceAdd, Nat.reduceMul, Nat.reduceSub, Nat.reduceDiv, Nat.reduceMod, Int.reduceToNat, Int.reduceLT, Int.reduceLE, Int.reduceAdd, Int.reduceSub, Int.reduceMul, Int.reduceEq, Int.reduceNeg, reduceCtorEq, or_false, false_or, decide_true, decide_false, Int.cast_ofNat_Int, Nat.zero_add, Nat.add_zero, Int.toNat_natCast, Option.isNone_none, Option.isNone_some, Bool.not_true, Bool.not_false, Bool.xor_true, Bool.xor_false, Bool.true_xor, Bool.false_xor, decide_true, decide_false, Bool.and_true, Bool.true_and, Bool.and_false, Bool.false_and, eq_self, ne_eq, not_false_eq_true, not_true_eq_false, true_and, and_true, and_self]
          obtain ⟨p, hp⟩ : ∃ p : List Nat × List Wr × Option Nat, p = (fp2, wouts false ps n, some c) := ⟨_, rfl⟩
          refine SCode_ent (st' := oSt x y g s 0 p.2.1 p.2.2 [] p.1) ?_ (main p (by rw [hp]; exact ⟨hc, hn⟩))
          rw [hp]
          exact ent_low ⟨rfl, rfl, rfl, rfl, rfl, rfl, trivial⟩ ⟨rfl, rfl, trivial⟩ (by simp [oH]) (by simp [frBl, SV.bl, CV.bl, oF]) (by simp [hpBl, Blk.bl, oH, blL_v]) (by simp)
      · have hne : x = y := by simp at hxy; omega
        subst hne
        simp only [go_sem, ↓reduceIte, Nat.reduceEqDiff, Nat.reduceLT, Nat.reduceLeDiff, Nat.reduceAdd, Nat.reduceMul, Nat.reduceSub, Nat.reduceDiv, Nat.reduceMod, Int.reduceToNat, Int.reduceLT, Int.reduceLE, Int.reduceAdd, Int.reduceSub, Int.reduceMul, Int.reduceEq, Int.reduceNeg, reduceCtorEq, or_false, false_or, decide_true, decide_false, Int.cast_ofNat_Int, Nat.zero_add, Nat.add_zero, Int.toNat_natCast, Option.isNone_none, Option.isNone_some, Bool.not_true, Bool.not_false, Bool.xor_true, Bool.xor_false, Bool.true_xor, Bool.false_xor, decide_true, decide_false, Bool.and_true, Bool.true_and, Bool.and_false, Bool.false_and, eq_self, ne_eq, not_false_eq_true, not_true_eq_false, true_and, and_true, and_self, hxy]
        refine writes_list 0 rfl l0 ps hps 12 (by omega) hm0 false rfl fun n _ _ hn => ⟨fun hnil => ?_, fun c hc => ?_⟩
        · simp only [go_sem, ↓reduceIte, Nat.reduceEqDiff, Nat.reduceLT, Nat.reduceLeDiff, Nat.reduceAdd, Nat.reduceMul, Nat.reduceSub, Nat.reduceDiv, Nat.reduceMod, Int.reduceToNat, Int.reduceLT, Int.reduceLE, Int.reduceAdd, Int.reduceSub, Int.reduceMul, Int.reduceEq, Int.reduceNeg, reduceCtorEq, or_false, false_or, decide_true, decide_false, Int.cast_ofNat_Int, Nat.zero_add, Nat.add_zero, Int.toNat_natCast, Option.isNone_none, Option.isNone_some, Bool.not_true, Bool.not_false, Bool.xor_true, Bool.xor_false, Bool.true_xor, Bool.false_xor, decide_true, decide_false, Bool.and_true, Bool.true_and, Bool.and_false, Bool.false_and, eq_self, ne_eq, not_false_eq_true, not_true_eq_false, true_and, and_true, and_self]
          obtain ⟨p, hp⟩ : ∃ p : List Nat × List Wr × Option Nat, p = (fp1, [], none) := ⟨_, rfl⟩
          refine SCode_ent (st' := oSt x x g s 0 p.2.1 p.2.2 [] p.1) ?_ (main p (by rw [hp]; exact ⟨rfl, by simp⟩))
          rw [hp]
          exact ent_low ⟨rfl, rfl, rfl, rfl, rfl, rfl, trivial⟩ ⟨rfl, trivial⟩ (by simp [oH]) (by simp [frBl, SV.bl, CV.bl, oF]) (by simp [hpBl, Blk.bl, oH]) (by simp)
        · simp only [go_sem, ↓reduceIte, Nat.reduceEqDiff, Nat.reduceLT, Nat.reduceLeDiff, Nat.reduceAdd, Nat.reduceMul, Nat.reduceSub, Nat.reduceDiv, Nat.reduceMod, Int.reduceToNat, Int.reduceLT, Int.reduceLE, Int.reduceAdd, Int.reduceSub, Int.reduceMul, Int.reduceEq, Int.reduceNeg, reduceCtorEq, or_false, false_or, decide_true, decide_false, Int.cast_ofNat_Int, Nat.zero_add, Nat.add_zero, Int.toNat_natCast, Option.isNone_none, Option.isNone_some, Bool.not_true, Bool.not_false, Bool.xor_true, Bool.xor_false, Bool.true_xor, Bool.false_xor, decide_true, decide_false, Bool.and_true, Bool.true_and, Bool.and_false, Bool.false_and, eq_self, ne_eq, not_false_eq_true, not_true_eq_false, true_and, and_true, and_self]
          obtain ⟨p, hp⟩ : ∃ p : List Nat × List Wr × Option Nat, p = (fp1, wouts false ps n, some c) := ⟨_, rfl⟩
          refine SCode_ent (st' := oSt x x g s 0 p.2.1 p.2.2 [] p.1) ?_ (main p (by rw [hp]; exact ⟨hc, hn⟩))
          rw [hp]
          exact ent_low ⟨rfl, rfl, rfl, rfl, rfl, rfl, trivial⟩ ⟨rfl, rfl, trivial⟩ (by simp [oH]) (by simp [frBl, SV.bl, CV.bl, oF]) (by simp [hpBl, Blk.bl, oH, blL_v]) (by simp)
    · rintro ⟨fp, wl, c⟩ ⟨hok, hl12⟩
      have hok : outOk wl c := hok
      have hl12 : wl.length ≤ 12 := hl12
      clear e0 f0 i0 l0 n0
      have fine0 : Fine [] := ⟨fun w h => by simp at h, List.Pairwise.nil, by simp⟩
      refine sloop (fun p : Nat × List Wr × List Nat => oSt x y g s p.1 wl c p.2.1 p.2.2) (fun p => p.1 ≤ wl.length ∧ Fine p.2.1) (fun p => wl.length - p.1) (0, [], fp) ⟨by simp, fine0⟩ Ent.refl (fun p hp => ?_)
      obtain ⟨i, ws, fp⟩ := p
      obtain ⟨hi, hf⟩ : i ≤ wl.length ∧ Fine ws := hp
      show X _ _ _ _ (oSt x y g s i wl c ws fp)
      by_cases h : i < wl.length
      · have d0 : decide ((i : Int) < wl.length) = true := by simp; omega
        have d3 : (0 : Int) ≤ i ∧ (i : Int) < wl.length := by omega
        have w1 : IntKind.i64.wrap ((i : Int) + 1) = ((i + 1 : Nat) : Int) := wrap_i64 _ (by omega) (by omega)
        obtain ⟨c1, rfl⟩ : ∃ c1, c = some c1 := by
          cases c with
          | none => have h0 : wl = [] := hok; subst h0; simp at h
          | some c => exact ⟨c, rfl⟩
        obtain ⟨W, hW⟩ : ∃ W, wl[i]? = some W := ⟨_, List.getElem?_eq_getElem h⟩
        have hrow := wrow_eq hW
        obtain ⟨e, he⟩ : ∃ e, writeE (oT x y s ws) x W = e := ⟨_, rfl⟩
        obtain ⟨ws1, hw1⟩ : ∃ ws1, (if W.right && fits ws W then putW ws W else ws) = ws1 := ⟨_, rfl⟩
        obtain ⟨q1, q2⟩ := o_write (y := y) (s := s) hx ws W
        rw [hw1] at q2
        obtain ⟨M, hM⟩ : ∃ M, ownV (oT x y s ws1) x W.b W.k = M := ⟨_, rfl⟩
        obtain ⟨bo, hbo⟩ : ∃ b, ownB (oT x y s ws1) x W.b W.k = b := ⟨_, rfl⟩
        have hf1 : Fine ws1 := by
          rw [← hw1]; split
          · rename_i hc; simp at hc; exact put_fine hf hc.1 hc.2
          · exact hf
        have hcase : (e = 0 ∧ bo = true ∧ M = W) ∨ (e = 1 ∧ W.right = false) ∨ e = 4 := by
          rw [he] at q1
          cases hr2 : W.right
          · right; left; rw [hr2] at q1; exact ⟨by simpa using q1, rfl⟩
          · cases hft : fits ws W
            · right; right; rw [hr2, hft] at q1; simpa using q1
            · left; rw [hr2, hft] at q1 hw1
              have h2 : ws1 = putW ws W := by simpa using hw1.symm
              have h3 : ownW (oT x y s ws1) x W.b W.k = some W := by rw [o_own hx, h2, put_find]
              exact ⟨by simpa using q1, by rw [← hbo]; unfold ownB; rw [h3]; rfl, by rw [← hM]; unfold ownV; rw [h3]; rfl⟩
        simp only [oSt, oF, oH, List.cons_append, List.nil_append]
        simp only [go_sem, ↓reduceIte, Nat.reduceEqDiff, Nat.reduceLT, Nat.reduceLeDiff, Nat.reduceAdd, Nat.reduceMul, Nat.reduceSub, Nat.reduceDiv, Nat.reduceMod, Int.reduceToNat, Int.reduceLT, Int.reduceLE, Int.reduceAdd, Int.reduceSub, Int.reduceMul, Int.reduceEq, Int.reduceNeg, reduceCtorEq, or_false, false_or, decide_true, decide_false, Int.cast_ofNat_Int, Nat.zero_add, Nat.add_zero, Int.toNat_natCast, Option.isNone_none, Option.isNone_some, Bool.not_true, Bool.not_false, Bool.xor_true, Bool.xor_false, Bool.true_xor, Bool.false_xor, decide_true, decide_false, Bool.and_true, Bool.true_and, Bool.and_false, Bool.false_and, eq_self, ne_eq, not_false_eq_true, not_true_eq_false, true_and, and_true, and_self, d0, d3, hrow, h]
        refine tab_call 2 (T := oT x y s ws) (T' := oT x y s ws1) (v := .int .i64 e) [ptr g, .int .i64 x, W.v] (.c (.v (.int .i64 e))) Try.call25 (fun w h => by have := write_c g _ _ x W w h; rw [he, q2] at this; exact this) rfl rfl (fun _ => rfl) (fun _ => rfl) rfl fun fp1 => ?_
        simp only [go_sem, ↓reduceIte, Nat.reduceEqDiff, Nat.reduceLT, Nat.reduceLeDiff, Nat.reduceAdd, Nat.reduceMul, Nat.reduceSub, Nat.reduceDiv, Nat.reduceMod, Int.reduceToNat, Int.reduceLT, Int.reduceLE, Int.reduceAdd, Int.reduceSub, Int.reduceMul, Int.reduceEq, Int.reduceNeg, reduceCtorEq, or_false, false_or, decide_true, decide_false, Int.cast_ofNat_Int, Nat.zero_add, Nat.add_zero, Int.toNat_natCast, Option.isNone_none, Option.isNone_some, Bool.not_true, Bool.not_false, Bool.xor_true, Bool.xor_false, Bool.true_xor, Bool.false_xor, decide_true, decide_false, Bool.and_true, Bool.true_and, Bool.and_false, Bool.false_and, eq_self, ne_eq, not_false_eq_true, not_true_eq_false, true_and, and_true, and_self]
        apply join (α := List Nat) (fun _ => True)
        · intro main
          refine sdraw [.t 0, .t 1, .t 2, .t 3, .t 4, .t 5, .t 6, .t 7, .t 8, .t 9, .t 10, .t 11, .c 12 [.t 13, .t 14, .t 15, .r 16, .r 17, .t 18] 16 [.r 12, .t 13, .t 14, .t 15, .r 17, .t 18]] 19 [(4, .rows 41 4 wl.length c1 fun j => (wrow wl j).map .v)] rfl (by kernel_rfl) ⟨rfl, trivial⟩ ?_
          simp only [go_sem, ↓reduceIte, Nat.reduceEqDiff, Nat.reduceLT, Nat.reduceLeDiff, Nat.reduceAdd, Nat.reduceMul, Nat.reduceSub, Nat.reduceDiv, Nat.reduceMod, Int.reduceToNat, Int.reduceLT, Int.reduceLE, Int.reduceAdd, Int.reduceSub, Int.reduceMul, Int.reduceEq, Int.reduceNeg, reduceCtorEq, or_false, false_or, decide_true, decide_false, Int.cast_ofNat_Int, Nat.zero_add, Nat.add_zero, Int.toNat_natCast, Option.isNone_none, Option.isNone_some, Bool.not_true, Bool.not_false, Bool.xor_true, Bool.xor_false, Bool.true_xor, Bool.false_xor, decide_true, decide_false, Bool.and_true, Bool.true_and, Bool.and_false, Bool.false_and, eq_self, ne_eq, not_false_eq_true, not_true_eq_false, true_and, and_true, and_self, d3, hrow, h]
          refine ⟨?_, ?_⟩
          all_goals
            refine tab_call 2 (T := oT x y s ws1) (T' := oT x y s ws1) (v := .tuple #[M.v, .bool bo]) [ptr g, .int .i64 x, .string W.b, .string W.k] (.tup [.agg [.v (.string M.b), .v (.string M.k), .v (.string M.x), .v (.bool M.g)], .c (.v (.bool bo))]) Try.call30 (fun w h => by have := own_c g _ _ x W.b W.k w h; rw [hM, hbo] at this; exact this) rfl rfl (fun _ => rfl) (fun _ => rfl) rfl fun fp2 => ?_
            simp only [go_sem, ↓reduceIte, Nat.reduceEqDiff, Nat.reduceLT, Nat.reduceLeDiff, Nat.reduceAdd, Nat.reduceMul, Nat.reduceSub, Nat.reduceDiv, Nat.reduceMod, Int.reduceToNat, Int.reduceLT, Int.reduceLE, Int.reduceAdd, Int.reduceSub, Int.reduceMul, Int.reduceEq, Int.reduceNeg, reduceCtorEq, or_false, false_or, decide_true, decide_false, Int.cast_ofNat_Int, Nat.zero_add, Nat.add_zero, Int.toNat_natCast, Option.isNone_none, Option.isNone_some, Bool.not_true, Bool.not_false, Bool.xor_true, Bool.xor_false, Bool.true_xor, Bool.false_xor, decide_true, decide_false, Bool.and_true, Bool.true_and, Bool.and_false, Bool.false_and, eq_self, ne_eq, not_false_eq_true, not_true_eq_false, true_and, and_true, and_self]
            refine SCode_ent (st' := ⟨[(18, .c (.v (.bool bo))), (17, .c (.p 5 0 0)), (16, .c (.v (.int .i64 e))), (15, .c (.v (.int .i64 i))), (14, .c (.s 4 0 wl.length c1)), (12, .c (.v (.int .i64 y))), (11, .c (.v (.int .i64 x))), (10, .c (.v (ptr g))), (9, .c (.v (.bool true)))], [(5, .cells 41 [.v (.string M.b), .v (.string M.k), .v (.string M.x), .v (.bool M.g)]), (4, .rows 41 4 wl.length c1 fun j => (wrow wl j).map .v), (2, .pred fp2 (TabIs g (oT x y s ws1) fp2))], 6⟩) ?_ (main fp2 trivial)
            exact ent_low ⟨rfl, rfl, rfl, rfl, rfl, rfl, rfl, rfl, rfl, trivial⟩ ⟨rfl, rfl, rfl, trivial⟩ (by simp) (by simp [frBl, SV.bl, CV.bl]) (by simp [hpBl, Blk.bl, CV.blL, CV.bl, blL_v]) (by simp)
        · intro fp2 _
          refine sdraw0 [.t 0, .t 1, .t 2, .t 3, .t 4, .t 5, .t 6, .t 7, .t 8, .t 9, .t 10, .t 11, .t 12, .t 13, .t 14, .t 15, .t 16, .t 17, .t 18, .t 19, .t 20, .t 21, .t 22, .t 23, .r 24, .t 25, .t 26] 27 rfl (by kernel_rfl) ?_
          rcases hcase with ⟨rfl, rfl, rfl⟩ | ⟨rfl, hwr⟩ | rfl
          · simp only [go_sem, ↓reduceIte, Nat.reduceEqDiff, Nat.reduceLT, Nat.reduceLeDiff, Nat.reduceAdd, Nat.reduceMul, Nat.reduceSub, Nat.reduceDiv, Nat.reduceMod, Int.reduceToNat, Int.reduceLT, Int.reduceLE, Int.reduceAdd, Int.reduceSub, Int.reduceMul, Int.reduceEq, Int.reduceNeg, reduceCtorEq, or_false, false_or, decide_true, decide_false, Int.cast_ofNat_Int, Nat.zero_add, Nat.add_zero, Int.toNat_natCast, Option.isNone_none, Option.isNone_some, Bool.not_true, Bool.not_false, Bool.xor_true, Bool.xor_false, Bool.true_xor, Bool.false_xor, decide_true, decide_false, Bool.and_true, Bool.true_and, Bool.and_false, Bool.false_and, eq_self, ne_eq, not_false_eq_true, not_true_eq_false, true_and, and_true, and_self, d3, hrow, h, w1]
            exact ⟨(i + 1, ws1, fp2), ⟨by show i + 1 ≤ wl.length; omega, hf1⟩, by show wl.length - (i + 1) < wl.length - i; omega, ent_low ⟨rfl, rfl, rfl, rfl, rfl, rfl, trivial⟩ ⟨rfl, rfl, trivial⟩ (by simp [oH]) (by simp [frBl, SV.bl, CV.bl, oF]) (by simp [hpBl, Blk.bl, oH, blL_v]) (by simp)⟩
          · cases bo
            · simp only [go_sem, ↓reduceIte, Nat.reduceEqDiff, Nat.reduceLT, Nat.reduceLeDiff, Nat.reduceAdd, Nat.reduceMul, Nat.reduceSub, Nat.reduceDiv, Nat.reduceMod, Int.reduceToNat, Int.reduceLT, Int.reduceLE, Int.reduceAdd, Int.reduceSub, Int.reduceMul, Int.reduceEq, Int.reduceNeg, reduceCtorEq, or_false, false_or, decide_true, decide_false, Int.cast_ofNat_Int, Nat.zero_add, Nat.add_zero, Int.toNat_natCast, Option.isNone_none, Option.isNone_some, Bool.not_true, Bool.not_false, Bool.xor_true, Bool.xor_false, Bool.true_xor, Bool.false_xor, decide_true, decide_false, Bool.and_true, Bool.true_and, Bool.and_false, Bool.false_and, eq_self, ne_eq, not_false_eq_true, not_true_eq_false, true_and, and_true, and_self, d3, hrow, h]
              refine scall_pure [W.v] (.c (.v (.bool false))) (.bool false) Try.call42 (fun w => by have := wright_c W w; rw [hwr] at this; exact this) rfl (fun _ => rfl) (fun _ => rfl) ?_
              simp only [go_sem, ↓reduceIte, Nat.reduceEqDiff, Nat.reduceLT, Nat.reduceLeDiff, Nat.reduceAdd, Nat.reduceMul, Nat.reduceSub, Nat.reduceDiv, Nat.reduceMod, Int.reduceToNat, Int.reduceLT, Int.reduceLE, Int.reduceAdd, Int.reduceSub, Int.reduceMul, Int.reduceEq, Int.reduceNeg, reduceCtorEq, or_false, false_or, decide_true, decide_false, Int.cast_ofNat_Int, Nat.zero_add, Nat.add_zero, Int.toNat_natCast, Option.isNone_none, Option.isNone_some, Bool.not_true, Bool.not_false, Bool.xor_true, Bool.xor_false, Bool.true_xor, Bool.false_xor, decide_true, decide_false, Bool.and_true, Bool.true_and, Bool.and_false, Bool.false_and, eq_self, ne_eq, not_false_eq_true, not_true_eq_false, true_and, and_true, and_self, w1]
              exact ⟨(i + 1, ws1, fp2), ⟨by show i + 1 ≤ wl.length; omega, hf1⟩, by show wl.length - (i + 1) < wl.length - i; omega, ent_low ⟨rfl, rfl, rfl, rfl, rfl, rfl, trivial⟩ ⟨rfl, rfl, trivial⟩ (by simp [oH]) (by simp [frBl, SV.bl, CV.bl, oF]) (by simp [hpBl, Blk.bl, oH, blL_v]) (by simp)⟩
            · obtain ⟨k1, k2, k3, k4, g1, g2, g3, g4⟩ : ∃ k1 k2 k3 k4, decide (M.b = W.b) = k1 ∧ decide (M.k = W.k) = k2 ∧ decide (M.x = W.x) = k3 ∧ decide (M.g = W.g) = k4 := ⟨_, _, _, _, rfl, rfl, rfl, rfl⟩
              cases k1 <;> cases k2 <;> cases k3 <;> cases k4
              all_goals
                simp only [go_sem, ↓reduceIte, Nat.reduceEqDiff, Nat.reduceLT, Nat.reduceLeDiff, Nat.reduceAdd, Nat.reduceMul, Nat.reduceSub, Nat.reduceDiv, Nat.reduceMod, Int.reduceToNat, Int.reduceLT, Int.reduceLE, Int.reduceAdd, Int.reduceSub, Int.reduceMul, Int.reduceEq, Int.reduceNeg, reduceCtorEq, or_false, false_or, decide_true, decide_false, Int.cast_ofNat_Int, Nat.zero_add, Nat.add_zero, Int.toNat_natCast, Option.isNone_none, Option.isNone_some, Bool.not_true, Bool.not_false, Bool.xor_true, Bool.xor_false, Bool.true_xor, Bool.false_xor, decide_true, decide_false, Bool.and_true, Bool.true_and, Bool.and_false, Bool.false_and, eq_self, ne_eq, not_false_eq_true, not_true_eq_false, true_and, and_true, and_self, d3, hrow, h, g1, g2, g3, g4]
                refine scall_pure [W.v] (.c (.v (.bool false))) (.bool false) Try.call42 (fun w => by have := wright_c W w; rw [hwr] at this; exact this) rfl (fun _ => rfl) (fun _ => rfl) ?_
                simp only [go_sem, ↓reduceIte, Nat.reduceEqDiff, Nat.reduceLT, Nat.reduceLeDiff, Nat.reduceAdd, Nat.reduceMul, Nat.reduceSub, Nat.reduceDiv, Nat.reduceMod, Int.reduceToNat, Int.reduceLT, Int.reduceLE, Int.reduceAdd, Int.reduceSub, Int.reduceMul, Int.reduceEq, Int.reduceNeg, reduceCtorEq, or_false, false_or, decide_true, decide_false, Int.cast_ofNat_Int, Nat.zero_add, Nat.add_zero, Int.toNat_natCast, Option.isNone_none, Option.isNone_some, Bool.not_true, Bool.not_false, Bool.xor_true, Bool.xor_false, Bool.true_xor, Bool.false_xor, decide_true, decide_false, Bool.and_true, Bool.true_and, Bool.and_false, Bool.false_and, eq_self, ne_eq, not_false_eq_true, not_true_eq_false, true_and, and_true, and_self, w1]
                exact ⟨(i + 1, ws1, fp2), ⟨by show i + 1 ≤ wl.length; omega, hf1⟩, by show wl.length - (i + 1) < wl.length - i; omega, ent_low ⟨rfl, rfl, rfl, rfl, rfl, rfl, trivial⟩ ⟨rfl, rfl, trivial⟩ (by simp [oH]) (by simp [frBl, SV.bl, CV.bl, oF]) (by simp [hpBl, Blk.bl, oH, blL_v]) (by simp)⟩
          · cases bo
            · simp only [go_sem, ↓reduceIte, Nat.reduceEqDiff, Nat.reduceLT, Nat.reduceLeDiff, Nat.reduceAdd, Nat.reduceMul, Nat.reduceSub, Nat.reduceDiv, Nat.reduceMod, Int.reduceToNat, Int.reduceLT, Int.reduceLE, Int.reduceAdd, Int.reduceSub, Int.reduceMul, Int.reduceEq, Int.reduceNeg, reduceCtorEq, or_false, false_or, decide_true, decide_false, Int.cast_ofNat_Int, Nat.zero_add, Nat.add_zero, Int.toNat_natCast, Option.isNone_none, Option.isNone_some, Bool.not_true, Bool.not_false, Bool.xor_true, Bool.xor_false, Bool.true_xor, Bool.false_xor, decide_true, decide_false, Bool.and_true, Bool.true_and, Bool.and_false, Bool.false_and, eq_self, ne_eq, not_false_eq_true, not_true_eq_false, true_and, and_true, and_self, d3, hrow, h, w1]
              exact ⟨(i + 1, ws1, fp2), ⟨by show i + 1 ≤ wl.length; omega, hf1⟩, by show wl.length - (i + 1) < wl.length - i; omega, ent_low ⟨rfl, rfl, rfl, rfl, rfl, rfl, trivial⟩ ⟨rfl, rfl, trivial⟩ (by simp [oH]) (by simp [frBl, SV.bl, CV.bl, oF]) (by simp [hpBl, Blk.bl, oH, blL_v]) (by simp)⟩
            · obtain ⟨k1, k2, k3, k4, g1, g2, g3, g4⟩ : ∃ k1 k2 k3 k4, decide (M.b = W.b) = k1 ∧ decide (M.k = W.k) = k2 ∧ decide (M.x = W.x) = k3 ∧ decide (M.g = W.g) = k4 := ⟨_, _, _, _, rfl, rfl, rfl, rfl⟩
              cases k1 <;> cases k2 <;> cases k3 <;> cases k4
              all_goals
                simp only [go_sem, ↓reduceIte, Nat.reduceEqDiff, Nat.reduceLT, Nat.reduceLeDiff, Nat.reduceAdd, Nat.reduceMul, Nat.reduceSub, Nat.reduceDiv, Nat.reduceMod, Int.reduceToNat, Int.reduceLT, Int.reduceLE, Int.reduceAdd, Int.reduceSub, Int.reduceMul, Int.reduceEq, Int.reduceNeg, reduceCtorEq, or_false, false_or, decide_true, decide_false, Int.cast_ofNat_Int, Nat.zero_add, Nat.add_zero, Int.toNat_natCast, Option.isNone_none, Option.isNone_some, Bool.not_true, Bool.not_false, Bool.xor_true, Bool.xor_false, Bool.true_xor, Bool.false_xor, decide_true, decide_false, Bool.and_true, Bool.true_and, Bool.and_false, Bool.false_and, eq_self, ne_eq, not_false_eq_true, not_true_eq_false, true_and, and_true, and_self, d3, hrow, h, g1, g2, g3, g4, w1]
                exact ⟨(i + 1, ws1, fp2), ⟨by show i + 1 ≤ wl.length; omega, hf1⟩, by show wl.length - (i + 1) < wl.length - i; omega, ent_low ⟨rfl, rfl, rfl, rfl, rfl, rfl, trivial⟩ ⟨rfl, rfl, trivial⟩ (by simp [oH]) (by simp [frBl, SV.bl, CV.bl, oF]) (by simp [hpBl, Blk.bl, oH, blL_v]) (by simp)⟩
      · have hil : i = wl.length := by omega
        apply join (α := Option Nat) (fun c2 => outOk ws c2)
        · intro main
          rcases (show c = none ∨ ∃ c1, c = some c1 by cases c <;> simp) with hcn | ⟨c1, hcs⟩
          · have hw : wl = [] := by rw [hcn] at hok; exact hok
            have hi0 : i = 0 := by rw [hil, hw]; rfl
            simp only [oSt, hcn, hi0, oF, oH, List.nil_append]
            simp only [go_sem, ↓reduceIte, Nat.reduceEqDiff, Nat.reduceLT, Nat.reduceLeDiff, Nat.reduceAdd, Nat.reduceMul, Nat.reduceSub, Nat.reduceDiv, Nat.reduceMod, Int.reduceToNat, Int.reduceLT, Int.reduceLE, Int.reduceAdd, Int.reduceSub, Int.reduceMul, Int.reduceEq, Int.reduceNeg, reduceCtorEq, or_false, false_or, decide_true, decide_false, Int.cast_ofNat_Int, Nat.zero_add, Nat.add_zero, Int.toNat_natCast, Option.isNone_none, Option.isNone_some, Bool.not_true, Bool.not_false, Bool.xor_true, Bool.xor_false, Bool.true_xor, Bool.false_xor, decide_true, decide_false, Bool.and_true, Bool.true_and, Bool.and_false, Bool.false_and, eq_self, ne_eq, not_false_eq_true, not_true_eq_false, true_and, and_true, and_self]
            refine tab_writes 2 (T := oT x y s ws) (ws := ws) [ptr g, .int .i64 x] Try.call32 (fun w h => by have := writes_c g (oT x y s ws) _ x w h; rw [o_ws hx] at this; exact this) rfl rfl (fun _ => rfl) rfl (fun hnil => ?_) (fun c hc => ?_)
            · simp only [go_sem, ↓reduceIte, Nat.reduceEqDiff, Nat.reduceLT, Nat.reduceLeDiff, Nat.reduceAdd, Nat.reduceMul, Nat.reduceSub, Nat.reduceDiv, Nat.reduceMod, Int.reduceToNat, Int.reduceLT, Int.reduceLE, Int.reduceAdd, Int.reduceSub, Int.reduceMul, Int.reduceEq, Int.reduceNeg, reduceCtorEq, or_false, false_or, decide_true, decide_false, Int.cast_ofNat_Int, Nat.zero_add, Nat.add_zero, Int.toNat_natCast, Option.isNone_none, Option.isNone_some, Bool.not_true, Bool.not_false, Bool.xor_true, Bool.xor_false, Bool.true_xor, Bool.false_xor, decide_true, decide_false, Bool.and_true, Bool.true_and, Bool.and_false, Bool.false_and, eq_self, ne_eq, not_false_eq_true, not_true_eq_false, true_and, and_true, and_self]
              obtain ⟨c2, hc2⟩ : ∃ c2 : Option Nat, c2 = none := ⟨_, rfl⟩
              refine SCode_ent (st' := oSt2 x y g s 0 ws c2 fp) ?_ (main c2 (by rw [hc2]; exact hnil))
              rw [hc2]
              exact ent_low ⟨rfl, rfl, rfl, rfl, rfl, rfl, trivial⟩ ⟨rfl, trivial⟩ (by simp [oH]) (by simp [frBl, SV.bl, CV.bl, oF]) (by simp [hpBl, Blk.bl, oH]) (by simp)
            · simp only [go_sem, ↓reduceIte, Nat.reduceEqDiff, Nat.reduceLT, Nat.reduceLeDiff, Nat.reduceAdd, Nat.reduceMul, Nat.reduceSub, Nat.reduceDiv, Nat.reduceMod, Int.reduceToNat, Int.reduceLT, Int.reduceLE, Int.reduceAdd, Int.reduceSub, Int.reduceMul, Int.reduceEq, Int.reduceNeg, reduceCtorEq, or_false, false_or, decide_true, decide_false, Int.cast_ofNat_Int, Nat.zero_add, Nat.add_zero, Int.toNat_natCast, Option.isNone_none, Option.isNone_some, Bool.not_true, Bool.not_false, Bool.xor_true, Bool.xor_false, Bool.true_xor, Bool.false_xor, decide_true, decide_false, Bool.and_true, Bool.true_and, Bool.and_false, Bool.false_and, eq_self, ne_eq, not_false_eq_true, not_true_eq_false, true_and, and_true, and_self]
              obtain ⟨c2, hc2⟩ : ∃ c2 : Option Nat, c2 = some c := ⟨_, rfl⟩
              refine SCode_ent (st' := oSt2 x y g s 0 ws c2 fp) ?_ (main c2 (by rw [hc2]; exact ⟨hc.2.1, hc.2.2⟩))
              rw [hc2]
              exact ent_low ⟨rfl, rfl, rfl, rfl, rfl, rfl, trivial⟩ ⟨rfl, rfl, trivial⟩ (by simp [oH]) (by simp [frBl, SV.bl, CV.bl, oF]) (by simp [hpBl, Blk.bl, oH, blL_v]) (by simp)
          · have d0 : decide ((i : Int) < wl.length) = false := by simp; omega
            simp only [oSt, hcs, oF, oH, List.cons_append, List.nil_append]
            simp only [go_sem, ↓reduceIte, Nat.reduceEqDiff, Nat.reduceLT, Nat.reduceLeDiff, Nat.reduceAdd, Nat.reduceMul, Nat.reduceSub, Nat.reduceDiv, Nat.reduceMod, Int.reduceToNat, Int.reduceLT, Int.reduceLE, Int.reduceAdd, Int.reduceSub, Int.reduceMul, Int.reduceEq, Int.reduceNeg, reduceCtorEq, or_false, false_or, decide_true, decide_false, Int.cast_ofNat_Int, Nat.zero_add, Nat.add_zero, Int.toNat_natCast, Option.isNone_none, Option.isNone_some, Bool.not_true, Bool.not_false, Bool.xor_true, Bool.xor_false, Bool.true_xor, Bool.false_xor, decide_true, decide_false, Bool.and_true, Bool.true_and, Bool.and_false, Bool.false_and, eq_self, ne_eq, not_false_eq_true, not_true_eq_false, true_and, and_true, and_self, d0]
            refine tab_writes 2 (T := oT x y s ws) (ws := ws) [ptr g, .int .i64 x] Try.call32 (fun w h => by have := writes_c g (oT x y s ws) _ x w h; rw [o_ws hx] at this; exact this) rfl rfl (fun _ => rfl) rfl (fun hnil => ?_) (fun c hc => ?_)
            · simp only [go_sem, ↓reduceIte, Nat.reduceEqDiff, Nat.reduceLT, Nat.reduceLeDiff, Nat.reduceAdd, Nat.reduceMul, Nat.reduceSub, Nat.reduceDiv, Nat.reduceMod, Int.reduceToNat, Int.reduceLT, Int.reduceLE, Int.reduceAdd, Int.reduceSub, Int.reduceMul, Int.reduceEq, Int.reduceNeg, reduceCtorEq, or_false, false_or, decide_true, decide_false, Int.cast_ofNat_Int, Nat.zero_add, Nat.add_zero, Int.toNat_natCast, Option.isNone_none, Option.isNone_some, Bool.not_true, Bool.not_false, Bool.xor_true, Bool.xor_false, Bool.true_xor, Bool.false_xor, decide_true, decide_false, Bool.and_true, Bool.true_and, Bool.and_false, Bool.false_and, eq_self, ne_eq, not_false_eq_true, not_true_eq_false, true_and, and_true, and_self]
              obtain ⟨c2, hc2⟩ : ∃ c2 : Option Nat, c2 = none := ⟨_, rfl⟩
              refine SCode_ent (st' := oSt2 x y g s 0 ws c2 fp) ?_ (main c2 (by rw [hc2]; exact hnil))
              rw [hc2]
              exact ent_low ⟨rfl, rfl, rfl, rfl, rfl, rfl, trivial⟩ ⟨rfl, trivial⟩ (by simp [oH]) (by simp [frBl, SV.bl, CV.bl, oF]) (by simp [hpBl, Blk.bl, oH]) (by simp)
            · simp only [go_sem, ↓reduceIte, Nat.reduceEqDiff, Nat.reduceLT, Nat.reduceLeDiff, Nat.reduceAdd, Nat.reduceMul, Nat.reduceSub, Nat.reduceDiv, Nat.reduceMod, Int.reduceToNat, Int.reduceLT, Int.reduceLE, Int.reduceAdd, Int.reduceSub, Int.reduceMul, Int.reduceEq, Int.reduceNeg, reduceCtorEq, or_false, false_or, decide_true, decide_false, Int.cast_ofNat_Int, Nat.zero_add, Nat.add_zero, Int.toNat_natCast, Option.isNone_none, Option.isNone_some, Bool.not_true, Bool.not_false, Bool.xor_true, Bool.xor_false, Bool.true_xor, Bool.false_xor, decide_true, decide_false, Bool.and_true, Bool.true_and, Bool.and_false, Bool.false_and, eq_self, ne_eq, not_false_eq_true, not_true_eq_false, true_and, and_true, and_self]
              obtain ⟨c2, hc2⟩ : ∃ c2 : Option Nat, c2 = some c := ⟨_, rfl⟩
              refine SCode_ent (st' := oSt2 x y g s 0 ws c2 fp) ?_ (main c2 (by rw [hc2]; exact ⟨hc.2.1, hc.2.2⟩))
              rw [hc2]
              exact ent_low ⟨rfl, rfl, rfl, rfl, rfl, rfl, trivial⟩ ⟨rfl, rfl, trivial⟩ (by simp [oH]) (by simp [frBl, SV.bl, CV.bl, oF]) (by simp [hpBl, Blk.bl, oH, blL_v]) (by simp)
        · intro c2 hok2
          clear hok hl12 hi h hil
          refine sloop (fun p : Nat × List Nat => oSt2 x y g s p.1 ws c2 p.2) (fun p => p.1 ≤ ws.length) (fun p => ws.length - p.1) (0, fp) (by simp) Ent.refl (fun p hp => ?_)
          obtain ⟨i, fp⟩ := p
          have hi : i ≤ ws.length := hp
          show X _ _ _ _ (oSt2 x y g s i ws c2 fp)
          have hl8 := hf.2.2
          by_cases h : i < ws.length
          · have d0 : decide ((i : Int) < ws.length) = true := by simp; omega
            have d3 : (0 : Int) ≤ i ∧ (i : Int) < ws.length := by omega
            have w1 : IntKind.i64.wrap ((i : Int) + 1) = ((i + 1 : Nat) : Int) := wrap_i64 _ (by omega) (by omega)
            obtain ⟨c3, rfl⟩ : ∃ c3, c2 = some c3 := by
              cases c2 with
              | none => have h0 : ws = [] := hok2; subst h0; simp at h
              | some c => exact ⟨c, rfl⟩
            obtain ⟨W, hW⟩ : ∃ W, ws[i]? = some W := ⟨_, List.getElem?_eq_getElem h⟩
            have hrow := wrow_eq hW
            have hwr : W.right = true := hf.1 W (List.mem_of_getElem? hW)
            obtain ⟨M, hM⟩ : ∃ M, ownV (oT x y s ws) y W.b W.k = M := ⟨_, rfl⟩
            obtain ⟨bxy, hxy⟩ : ∃ b, decide ((x : Int) = y) = b := ⟨_, rfl⟩
            have hbo : ownB (oT x y s ws) y W.b W.k = bxy := by
              unfold ownB; rw [o_other hx hy, ← hxy]
              by_cases hq : x = y
              · rw [if_pos hq, fine_find hW]; simp [hq]
              · rw [if_neg hq]; simp; omega
            simp only [oSt2, oF, oH, List.cons_append, List.nil_append]
            simp only [go_sem, ↓reduceIte, Nat.reduceEqDiff, Nat.reduceLT, Nat.reduceLeDiff, Nat.reduceAdd, Nat.reduceMul, Nat.reduceSub, Nat.reduceDiv, Nat.reduceMod, Int.reduceToNat, Int.reduceLT, Int.reduceLE, Int.reduceAdd, Int.reduceSub, Int.reduceMul, Int.reduceEq, Int.reduceNeg, reduceCtorEq, or_false, false_or, decide_true, decide_false, Int.cast_ofNat_Int, Nat.zero_add, Nat.add_zero, Int.toNat_natCast, Option.isNone_none, Option.isNone_some, Bool.not_true, Bool.not_false, Bool.xor_true, Bool.xor_false, Bool.true_xor, Bool.false_xor, decide_true, decide_false, Bool.and_true, Bool.true_and, Bool.and_false, Bool.false_and, eq_self, ne_eq, not_false_eq_true, not_true_eq_false, true_and, and_true, and_self, d0]
            refine sdraw [.t 0, .t 1, .t 2, .t 3, .t 4, .t 5, .t 6, .t 7, .t 8, .t 9, .t 10, .t 11, .c 12 [.t 13, .t 14, .t 15, .r 16, .r 17, .t 18] 16 [.r 12, .t 13, .t 14, .t 15, .r 17, .t 18]] 19 [(5, .rows 41 4 ws.length c3 fun j => (wrow ws j).map .v)] rfl (by kernel_rfl) ⟨rfl, trivial⟩ ?_
            simp only [go_sem, ↓reduceIte, Nat.reduceEqDiff, Nat.reduceLT, Nat.reduceLeDiff, Nat.reduceAdd, Nat.reduceMul, Nat.reduceSub, Nat.reduceDiv, Nat.reduceMod, Int.reduceToNat, Int.reduceLT, Int.reduceLE, Int.reduceAdd, Int.reduceSub, Int.reduceMul, Int.reduceEq, Int.reduceNeg, reduceCtorEq, or_false, false_or, decide_true, decide_false, Int.cast_ofNat_Int, Nat.zero_add, Nat.add_zero, Int.toNat_natCast, Option.isNone_none, Option.isNone_some, Bool.not_true, Bool.not_false, Bool.xor_true, Bool.xor_false, Bool.true_xor, Bool.false_xor, decide_true, decide_false, Bool.and_true, Bool.true_and, Bool.and_false, Bool.false_and, eq_self, ne_eq, not_false_eq_true, not_true_eq_false, true_and, and_true, and_self, d3, hrow, h]
            refine ⟨?_, ?_⟩
            all_goals
              refine tab_call 2 (T := oT x y s ws) (T' := oT x y s ws) (v := .tuple #[M.v, .bool bxy]) [ptr g, .int .i64 y, .string W.b, .string W.k] (.tup [.agg [.v (.string M.b), .v (.string M.k), .v (.string M.x), .v (.bool M.g)], .c (.v (.bool bxy))]) Try.call30 (fun w h => by have := own_c g _ _ y W.b W.k w h; rw [hM, hbo] at this; exact this) rfl rfl (fun _ => rfl) (fun _ => rfl) rfl fun fp2 => ?_
              simp only [go_sem, ↓reduceIte, Nat.reduceEqDiff, Nat.reduceLT, Nat.reduceLeDiff, Nat.reduceAdd, Nat.reduceMul, Nat.reduceSub, Nat.reduceDiv, Nat.reduceMod, Int.reduceToNat, Int.reduceLT, Int.reduceLE, Int.reduceAdd, Int.reduceSub, Int.reduceMul, Int.reduceEq, Int.reduceNeg, reduceCtorEq, or_false, false_or, decide_true, decide_false, Int.cast_ofNat_Int, Nat.zero_add, Nat.add_zero, Int.toNat_natCast, Option.isNone_none, Option.isNone_some, Bool.not_true, Bool.not_false, Bool.xor_true, Bool.xor_false, Bool.true_xor, Bool.false_xor, decide_true, decide_false, Bool.and_true, Bool.true_and, Bool.and_false, Bool.false_and, eq_self, ne_eq, not_false_eq_true, not_true_eq_false, true_and, and_true, and_self, hxy, d3, hrow, h]
              refine scall_pure [W.v] (.c (.v (.bool true))) (.bool true) Try.call42 (fun w => by have := wright_c W w; rw [hwr] at this; exact this) rfl (fun _ => rfl) (fun _ => rfl) ?_
              simp only [go_sem, ↓reduceIte, Nat.reduceEqDiff, Nat.reduceLT, Nat.reduceLeDiff, Nat.reduceAdd, Nat.reduceMul, Nat.reduceSub, Nat.reduceDiv, Nat.reduceMod, Int.reduceToNat, Int.reduceLT, Int.reduceLE, Int.reduceAdd, Int.reduceSub, Int.reduceMul, Int.reduceEq, Int.reduceNeg, reduceCtorEq, or_false, false_or, decide_true, decide_false, Int.cast_ofNat_Int, Nat.zero_add, Nat.add_zero, Int.toNat_natCast, Option.isNone_none, Option.isNone_some, Bool.not_true, Bool.not_false, Bool.xor_true, Bool.xor_false, Bool.true_xor, Bool.false_xor, decide_true, decide_false, Bool.and_true, Bool.true_and, Bool.and_false, Bool.false_and, eq_self, ne_eq, not_false_eq_true, not_true_eq_false, true_and, and_true, and_self]
              refine sloop (fun k : Nat => ⟨[(23, .c (.v (.int .i64 k))), (20, .c (.v (.int .i64 i))), (19, .c (.s 5 0 ws.length c3)), (12, .c (.v (.int .i64 y))), (11, .c (.v (.int .i64 x))), (10, .c (.v (ptr g))), (9, .c (.v (.bool true)))], [(5, .rows 41 4 ws.length c3 fun j => (wrow ws j).map .v), (2, .pred fp2 (TabIs g (oT x y s ws) fp2))], 6⟩) (fun k => k ≤ i) (fun k => i - k) 0 (by simp)
                (ent_low ⟨rfl, rfl, rfl, rfl, rfl, rfl, rfl, trivial⟩ ⟨rfl, rfl, trivial⟩ (by simp) (by simp [frBl, SV.bl, CV.bl]) (by simp [hpBl, Blk.bl, blL_v]) (by simp)) (fun k hk => ?_)
              have hk : k ≤ i := hk
              by_cases hki : k < i
              · have d4 : decide ((k : Int) < i) = true := by simp; omega
                have d5 : (0 : Int) ≤ k ∧ (k : Int) < ws.length := by omega
                have hkl : k < ws.length := by omega
                have w2 : IntKind.i64.wrap ((k : Int) + 1) = ((k + 1 : Nat) : Int) := wrap_i64 _ (by omega) (by omega)
                obtain ⟨u, hu⟩ : ∃ u, ws[k]? = some u := ⟨_, List.getElem?_eq_getElem hkl⟩
                have hrow2 := wrow_eq hu
                have hap := fine_apart hf hki hu hW
                obtain ⟨z1, z2, g1, g2⟩ : ∃ z1 z2, decide (u.b = W.b) = z1 ∧ decide (u.k = W.k) = z2 := ⟨_, _, rfl, rfl⟩
                rw [g1, g2] at hap
                simp only [go_sem, ↓reduceIte, Nat.reduceEqDiff, Nat.reduceLT, Nat.reduceLeDiff, Nat.reduceAdd, Nat.reduceMul, Nat.reduceSub, Nat.reduceDiv, Nat.reduceMod, Int.reduceToNat, Int.reduceLT, Int.reduceLE, Int.reduceAdd, Int.reduceSub, Int.reduceMul, Int.reduceEq, Int.reduceNeg, reduceCtorEq, or_false, false_or, decide_true, decide_false, Int.cast_ofNat_Int, Nat.zero_add, Nat.add_zero, Int.toNat_natCast, Option.isNone_none, Option.isNone_some, Bool.not_true, Bool.not_false, Bool.xor_true, Bool.xor_false, Bool.true_xor, Bool.false_xor, decide_true, decide_false, Bool.and_true, Bool.true_and, Bool.and_false, Bool.false_and, eq_self, ne_eq, not_false_eq_true, not_true_eq_false, true_and, and_true, and_self, d4]
                refine sdraw0 [.t 0, .t 1, .t 2, .t 3, .t 4, .t 5, .t 6, .t 7, .t 8, .t 9, .t 10, .t 11, .t 12, .t 13, .t 14, .t 15, .t 16, .t 17, .t 18, .t 19, .t 20, .t 21, .t 22, .t 23] 24 rfl (by kernel_rfl) ?_
                cases z1 <;> cases z2 <;> first | cases hap | skip
                all_goals
                  simp only [go_sem, ↓reduceIte, Nat.reduceEqDiff, Nat.reduceLT, Nat.reduceLeDiff, Nat.reduceAdd, Nat.reduceMul, Nat.reduceSub, Nat.reduceDiv, Nat.reduceMod, Int.reduceToNat, Int.reduceLT, Int.reduceLE, Int.reduceAdd, Int.reduceSub, Int.reduceMul, Int.reduceEq, Int.reduceNeg, reduceCtorEq, or_false, false_or, decide_true, decide_false, Int.cast_ofNat_Int, Nat.zero_add, Nat.add_zero, Int.toNat_natCast, Option.isNone_none, Option.isNone_some, Bool.not_true, Bool.not_false, Bool.xor_true, Bool.xor_false, Bool.true_xor, Bool.false_xor, decide_true, decide_false, Bool.and_true, Bool.true_and, Bool.and_false, Bool.false_and, eq_self, ne_eq, not_false_eq_true, not_true_eq_false, true_and, and_true, and_self, d3, d5, hrow, hrow2, h, hkl, g1, g2, w2]
                  exact ⟨k + 1, by show k + 1 ≤ i; omega, by show i - (k + 1) < i - k; omega, ent_drop ⟨rfl, rfl, rfl, rfl, rfl, rfl, rfl, trivial⟩ ⟨rfl, rfl, trivial⟩ (by simp)⟩
              · have d4 : decide ((k : Int) < i) = false := by simp; omega
                simp only [go_sem, ↓reduceIte, Nat.reduceEqDiff, Nat.reduceLT, Nat.reduceLeDiff, Nat.reduceAdd, Nat.reduceMul, Nat.reduceSub, Nat.reduceDiv, Nat.reduceMod, Int.reduceToNat, Int.reduceLT, Int.reduceLE, Int.reduceAdd, Int.reduceSub, Int.reduceMul, Int.reduceEq, Int.reduceNeg, reduceCtorEq, or_false, false_or, decide_true, decide_false, Int.cast_ofNat_Int, Nat.zero_add, Nat.add_zero, Int.toNat_natCast, Option.isNone_none, Option.isNone_some, Bool.not_true, Bool.not_false, Bool.xor_true, Bool.xor_false, Bool.true_xor, Bool.false_xor, decide_true, decide_false, Bool.and_true, Bool.true_and, Bool.and_false, Bool.false_and, eq_self, ne_eq, not_false_eq_true, not_true_eq_false, true_and, and_true, and_self, d4, w1]
                exact ⟨(i + 1, fp2), by show i + 1 ≤ ws.length; omega, by show ws.length - (i + 1) < ws.length - i; omega, ent_low ⟨rfl, rfl, rfl, rfl, rfl, rfl, trivial⟩ ⟨rfl, rfl, trivial⟩ (by simp [oH]) (by simp [frBl, SV.bl, CV.bl, oF]) (by simp [hpBl, Blk.bl, oH, blL_v]) (by simp)⟩
          · have hil : i = ws.length := by omega
            obtain ⟨t1, t2, t3⟩ := o_end (y := y) (s := s) hx ws
            have d8 : decide ((ws.length : Int) ≤ 8) = true := by simp; omega
            have nl := oF_len (n := 5) hok2
            cases c2 with
            | none =>
              have hw : ws = [] := hok2
              subst hw
              simp only [List.length_nil] at hil
              subst hil
              simp only [oSt2, oF, oH, List.nil_append]
              simp only [go_sem, ↓reduceIte, Nat.reduceEqDiff, Nat.reduceLT, Nat.reduceLeDiff, Nat.reduceAdd, Nat.reduceMul, Nat.reduceSub, Nat.reduceDiv, Nat.reduceMod, Int.reduceToNat, Int.reduceLT, Int.reduceLE, Int.reduceAdd, Int.reduceSub, Int.reduceMul, Int.reduceEq, Int.reduceNeg, reduceCtorEq, or_false, false_or, decide_true, decide_false, Int.cast_ofNat_Int, Nat.zero_add, Nat.add_zero, Int.toNat_natCast, Option.isNone_none, Option.isNone_some, Bool.not_true, Bool.not_false, Bool.xor_true, Bool.xor_false, Bool.true_xor, Bool.false_xor, decide_true, decide_false, Bool.and_true, Bool.true_and, Bool.and_false, Bool.false_and, eq_self, ne_eq, not_false_eq_true, not_true_eq_false, true_and, and_true, and_self]
              refine tab_call 2 (T := oT x y s []) (T' := endT (oT x y s []) x) (v := .int .i64 0) [ptr g, .int .i64 x] (.c (.v (.int .i64 0))) Try.call21 (fun w h => by have := end_c g _ _ x w h; rw [t1] at this; exact this) rfl rfl (fun _ => rfl) (fun _ => rfl) rfl fun fp3 => ?_
              simp only [go_sem, ↓reduceIte, Nat.reduceEqDiff, Nat.reduceLT, Nat.reduceLeDiff, Nat.reduceAdd, Nat.reduceMul, Nat.reduceSub, Nat.reduceDiv, Nat.reduceMod, Int.reduceToNat, Int.reduceLT, Int.reduceLE, Int.reduceAdd, Int.reduceSub, Int.reduceMul, Int.reduceEq, Int.reduceNeg, reduceCtorEq, or_false, false_or, decide_true, decide_false, Int.cast_ofNat_Int, Nat.zero_add, Nat.add_zero, Int.toNat_natCast, Option.isNone_none, Option.isNone_some, Bool.not_true, Bool.not_false, Bool.xor_true, Bool.xor_false, Bool.true_xor, Bool.false_xor, decide_true, decide_false, Bool.and_true, Bool.true_and, Bool.and_false, Bool.false_and, eq_self, ne_eq, not_false_eq_true, not_true_eq_false, true_and, and_true, and_self, d8]
              refine tab_writes 2 (T := endT (oT x y s []) x) (ws := []) [ptr g, .int .i64 x] Try.call32 (fun w h => by have := writes_c g (endT (oT x y s []) x) _ x w h; rw [t2] at this; exact this) rfl rfl (fun _ => rfl) rfl (fun hnil => ?_) (fun c hc => absurd hc.2.2 (by simp))
              simp only [go_sem, ↓reduceIte, Nat.reduceEqDiff, Nat.reduceLT, Nat.reduceLeDiff, Nat.reduceAdd, Nat.reduceMul, Nat.reduceSub, Nat.reduceDiv, Nat.reduceMod, Int.reduceToNat, Int.reduceLT, Int.reduceLE, Int.reduceAdd, Int.reduceSub, Int.reduceMul, Int.reduceEq, Int.reduceNeg, reduceCtorEq, or_false, false_or, decide_true, decide_false, Int.cast_ofNat_Int, Nat.zero_add, Nat.add_zero, Int.toNat_natCast, Option.isNone_none, Option.isNone_some, Bool.not_true, Bool.not_false, Bool.xor_true, Bool.xor_false, Bool.true_xor, Bool.false_xor, decide_true, decide_false, Bool.and_true, Bool.true_and, Bool.and_false, Bool.false_and, eq_self, ne_eq, not_false_eq_true, not_true_eq_false, true_and, and_true, and_self]
              refine tab_call 2 (T := endT (oT x y s []) x) (T' := endT (endT (oT x y s []) x) x) (v := .int .i64 5) [ptr g, .int .i64 x] (.c (.v (.int .i64 5))) Try.call21 (fun w h => by have := end_c g _ _ x w h; rw [t3] at this; exact this) rfl rfl (fun _ => rfl) (fun _ => rfl) rfl fun fp4 => ?_
              simp only [go_sem, ↓reduceIte, Nat.reduceEqDiff, Nat.reduceLT, Nat.reduceLeDiff, Nat.reduceAdd, Nat.reduceMul, Nat.reduceSub, Nat.reduceDiv, Nat.reduceMod, Int.reduceToNat, Int.reduceLT, Int.reduceLE, Int.reduceAdd, Int.reduceSub, Int.reduceMul, Int.reduceEq, Int.reduceNeg, reduceCtorEq, or_false, false_or, decide_true, decide_false, Int.cast_ofNat_Int, Nat.zero_add, Nat.add_zero, Int.toNat_natCast, Option.isNone_none, Option.isNone_some, Bool.not_true, Bool.not_false, Bool.xor_true, Bool.xor_false, Bool.true_xor, Bool.false_xor, decide_true, decide_false, Bool.and_true, Bool.true_and, Bool.and_false, Bool.false_and, eq_self, ne_eq, not_false_eq_true, not_true_eq_false, true_and, and_true, and_self]
              exact fun ρ a w hs _ => ⟨rfl, hs.grown⟩
            | some c3 =>
              have d0 : decide ((i : Int) < ws.length) = false := by simp; omega
              simp only [oSt2, oF, oH, List.cons_append, List.nil_append]
              simp only [go_sem, ↓reduceIte, Nat.reduceEqDiff, Nat.reduceLT, Nat.reduceLeDiff, Nat.reduceAdd, Nat.reduceMul, Nat.reduceSub, Nat.reduceDiv, Nat.reduceMod, Int.reduceToNat, Int.reduceLT, Int.reduceLE, Int.reduceAdd, Int.reduceSub, Int.reduceMul, Int.reduceEq, Int.reduceNeg, reduceCtorEq, or_false, false_or, decide_true, decide_false, Int.cast_ofNat_Int, Nat.zero_add, Nat.add_zero, Int.toNat_natCast, Option.isNone_none, Option.isNone_some, Bool.not_true, Bool.not_false, Bool.xor_true, Bool.xor_false, Bool.true_xor, Bool.false_xor, decide_true, decide_false, Bool.and_true, Bool.true_and, Bool.and_false, Bool.false_and, eq_self, ne_eq, not_false_eq_true, not_true_eq_false, true_and, and_true, and_self, d0]
              refine tab_call 2 (T := oT x y s ws) (T' := endT (oT x y s ws) x) (v := .int .i64 0) [ptr g, .int .i64 x] (.c (.v (.int .i64 0))) Try.call21 (fun w h => by have := end_c g _ _ x w h; rw [t1] at this; exact this) rfl rfl (fun _ => rfl) (fun _ => rfl) rfl fun fp3 => ?_
              simp only [go_sem, ↓reduceIte, Nat.reduceEqDiff, Nat.reduceLT, Nat.reduceLeDiff, Nat.reduceAdd, Nat.reduceMul, Nat.reduceSub, Nat.reduceDiv, Nat.reduceMod, Int.reduceToNat, Int.reduceLT, Int.reduceLE, Int.reduceAdd, Int.reduceSub, Int.reduceMul, Int.reduceEq, Int.reduceNeg, reduceCtorEq, or_false, false_or, decide_true, decide_false, Int.cast_ofNat_Int, Nat.zero_add, Nat.add_zero, Int.toNat_natCast, Option.isNone_none, Option.isNone_some, Bool.not_true, Bool.not_false, Bool.xor_true, Bool.xor_false, Bool.true_xor, Bool.false_xor, decide_true, decide_false, Bool.and_true, Bool.true_and, Bool.and_false, Bool.false_and, eq_self, ne_eq, not_false_eq_true, not_true_eq_false, true_and, and_true, and_self, d8]
              refine tab_writes 2 (T := endT (oT x y s ws) x) (ws := []) [ptr g, .int .i64 x] Try.call32 (fun w h => by have := writes_c g (endT (oT x y s ws) x) _ x w h; rw [t2] at this; exact this) rfl rfl (fun _ => rfl) rfl (fun hnil => ?_) (fun c hc => absurd hc.2.2 (by simp))
              simp only [go_sem, ↓reduceIte, Nat.reduceEqDiff, Nat.reduceLT, Nat.reduceLeDiff, Nat.reduceAdd, Nat.reduceMul, Nat.reduceSub, Nat.reduceDiv, Nat.reduceMod, Int.reduceToNat, Int.reduceLT, Int.reduceLE, Int.reduceAdd, Int.reduceSub, Int.reduceMul, Int.reduceEq, Int.reduceNeg, reduceCtorEq, or_false, false_or, decide_true, decide_false, Int.cast_ofNat_Int, Nat.zero_add, Nat.add_zero, Int.toNat_natCast, Option.isNone_none, Option.isNone_some, Bool.not_true, Bool.not_false, Bool.xor_true, Bool.xor_false, Bool.true_xor, Bool.false_xor, decide_true, decide_false, Bool.and_true, Bool.true_and, Bool.and_false, Bool.false_and, eq_self, ne_eq, not_false_eq_true, not_true_eq_false, true_and, and_true, and_self]
              refine tab_call 2 (T := endT (oT x y s ws) x) (T' := endT (endT (oT x y s ws) x) x) (v := .int .i64 5) [ptr g, .int .i64 x] (.c (.v (.int .i64 5))) Try.call21 (fun w h => by have := end_c g _ _ x w h; rw [t3] at this; exact this) rfl rfl (fun _ => rfl) (fun _ => rfl) rfl fun fp4 => ?_
              simp only [go_sem, ↓reduceIte, Nat.reduceEqDiff, Nat.reduceLT, Nat.reduceLeDiff, Nat.reduceAdd, Nat.reduceMul, Nat.reduceSub, Nat.reduceDiv, Nat.reduceMod, Int.reduceToNat, Int.reduceLT, Int.reduceLE, Int.reduceAdd, Int.reduceSub, Int.reduceMul, Int.reduceEq, Int.reduceNeg, reduceCtorEq, or_false, false_or, decide_true, decide_false, Int.cast_ofNat_Int, Nat.zero_add, Nat.add_zero, Int.toNat_natCast, Option.isNone_none, Option.isNone_some, Bool.not_true, Bool.not_false, Bool.xor_true, Bool.xor_false, Bool.true_xor, Bool.false_xor, decide_true, decide_false, Bool.and_true, Bool.true_and, Bool.and_false, Bool.false_and, eq_self, ne_eq, not_false_eq_true, not_true_eq_false, true_and, and_true, and_self]
              exact fun ρ a w hs _ => ⟨rfl, hs.grown⟩
end Go.Proofs.Ytfokingbglkmjaa
