/-
  What is written once more of a key stands in the place of what was; of more keys than may be the last are refused. Conditions: none.
-/
import Derived.Test.YtfokingbglkmjaaSessC
namespace Go.Proofs.Ytfokingbglkmjaa
open Go.RowKit Go.Sx
set_option linter.unusedVariables false
set_option linter.unusedSimpArgs false

def rkey (j : Nat) : ByteArray := strB [97 + (j : Int)]
def kw (j : Nat) : Wr := ⟨⟨#[98]⟩, rkey j, ByteArray.empty, false⟩
def rws (n : Nat) : List Wr := (List.range n).map kw
def z4 : V4 := ⟨0, 0, 0, 0⟩
def rT (ws : List Wr) : Nat → One := upd (fun _ => none1) 5 ⟨z4, some (z4, ws)⟩
theorem rT5 (ws : List Wr) : rT ws 5 = ⟨z4, some (z4, ws)⟩ := upd_same ..
theorem write_r (ws : List Wr) (x : Wr) : writeE (rT ws) 5 x = (if x.right then (if fits ws x then 0 else 4) else 1) ∧ writeT (rT ws) 5 x = rT (if x.right && fits ws x then putW ws x else ws) := by
  have h : inS 5 = true := rfl
  have e : (5 : Int).toNat = 5 := rfl
  have h1 : (rT ws 5).is = true := by rw [rT5]; rfl
  have h2 : (rT ws 5).ws = ws := by rw [rT5]; rfl
  have h3 : (rT ws 5).sn = z4 := by rw [rT5]; rfl
  have h4 : (rT ws 5).seen = z4 := by rw [rT5]
  unfold writeE writeT
  rw [h, e, h1, h2, h3, h4]
  refine ⟨by simp, ?_⟩
  cases hx : (x.right && fits ws x)
  · simp [hx]
  · simp [hx]
    exact upd_upd ..
theorem rws_e : ∀ i, i < 12 → (kw i).right = true ∧ fits (rws (min i 8)) (kw i) = decide (i < 8) ∧ (if decide (i < 8) then putW (rws (min i 8)) (kw i) else rws (min i 8)) = rws (min (i + 1) 8) := by decide
theorem rws_f : ∀ m, m < 9 → ∀ k, k < m → (rws m).findIdx? (hit ⟨#[98]⟩ (rkey k)) = some k := by decide
theorem rws_len (n : Nat) : (rws n).length = n := by simp [rws]
theorem rkey_named : ∀ k, k < 8 → namedB (rkey k) = true := by decide
theorem begin_r : beginE (fun _ => none1) 5 z4 = 0 ∧ beginT (fun _ => none1) 5 z4 = rT [] := by
  refine ⟨by decide, ?_⟩
  unfold beginT; rw [if_pos (by decide)]; rfl
theorem isWs_r (ws : List Wr) : isWs (rT ws) 5 = ws := by
  unfold isWs
  rw [if_pos (by decide)]
  show One.ws (rT ws 5) = ws
  rw [rT5]; rfl

theorem sessReplaces_c (w : World) (many again : Nat) (hmany : many < 256) (hagain : again < 256) (value : ByteArray) :
    Calls Try.prog 8 #[.int .u8 many, .int .u8 again, .string value] w fun e w' => e = .returned (.bool true) ∧ Below w.heap.size w w' := by
  refine calls_pure 99 _ Try.func8 rfl Try.ntmps8 Try.results8 [.c (.v (.int .u8 many)), .c (.v (.int .u8 again)), .c (.v (.string value))] (by simp) (fun _ => rfl) ?_
  have hid : IntKind.i64.wrap ((many : Int).tmod 12) = ((many % 12 : Nat) : Int) := by
    rw [show (many : Int).tmod 12 = ((many % 12 : Nat) : Int) from rfl]; exact wrap_i64 _ (by omega) (by omega)
  have hid2 : IntKind.i64.wrap (1 + ((many % 12 : Nat) : Int)) = ((1 + many % 12 : Nat) : Int) := by rw [wrap_i64 _ (by omega) (by omega)]; omega
  have hn : 1 ≤ 1 + many % 12 ∧ 1 + many % 12 ≤ 12 := by omega
  generalize 1 + many % 12 = n at hid2 hn
  simp only [go_sem, ↓reduceIte, Nat.reduceEqDiff, Nat.reduceLT, Nat.reduceLeDiff, Nat.reduceAdd, Nat.reduceMul, Nat.reduceSub, Nat.reduceDiv, Nat.reduceMod, Int.reduceToNat, Int.reduceLT, Int.reduceLE, Int.reduceAdd, Int.reduceSub, Int.reduceMul, Int.reduceEq, Int.reduceNeg, reduceCtorEq, or_false, false_or, decide_true, decide_false, Int.cast_ofNat_Int, Nat.zero_add, Nat.add_zero, Int.toNat_natCast, Option.isNone_none, Option.isNone_some, Bool.not_true, Bool.not_false, Bool.xor_true, Bool.xor_false, Bool.true_xor, Bool.false_xor, decide_true, decide_false, Bool.and_true, Bool.true_and, Bool.and_false, Bool.false_and, eq_self, ne_eq, not_false_eq_true, not_true_eq_false, true_and, and_true, and_self]
  refine scall_pure [] (.c (.v (.bool true))) (.bool true) Try.call15 ex_c rfl (fun _ => rfl) (fun _ => rfl) ?_
  simp only [go_sem, ↓reduceIte, Nat.reduceEqDiff, Nat.reduceLT, Nat.reduceLeDiff, Nat.reduceAdd, Nat.reduceMul, Nat.reduceSub, Nat.reduceDiv, Nat.reduceMod, Int.reduceToNat, Int.reduceLT, Int.reduceLE, Int.reduceAdd, Int.reduceSub, Int.reduceMul, Int.reduceEq, Int.reduceNeg, reduceCtorEq, or_false, false_or, decide_true, decide_false, Int.cast_ofNat_Int, Nat.zero_add, Nat.add_zero, Int.toNat_natCast, Option.isNone_none, Option.isNone_some, Bool.not_true, Bool.not_false, Bool.xor_true, Bool.xor_false, Bool.true_xor, Bool.false_xor, decide_true, decide_false, Bool.and_true, Bool.true_and, Bool.and_false, Bool.false_and, eq_self, ne_eq, not_false_eq_true, not_true_eq_false, true_and, and_true, and_self]
  refine tab_new [] Try.call16 new_c rfl (fun _ => rfl) rfl fun g fp0 => ?_
  simp only [go_sem, ↓reduceIte, Nat.reduceEqDiff, Nat.reduceLT, Nat.reduceLeDiff, Nat.reduceAdd, Nat.reduceMul, Nat.reduceSub, Nat.reduceDiv, Nat.reduceMod, Int.reduceToNat, Int.reduceLT, Int.reduceLE, Int.reduceAdd, Int.reduceSub, Int.reduceMul, Int.reduceEq, Int.reduceNeg, reduceCtorEq, or_false, false_or, decide_true, decide_false, Int.cast_ofNat_Int, Nat.zero_add, Nat.add_zero, Int.toNat_natCast, Option.isNone_none, Option.isNone_some, Bool.not_true, Bool.not_false, Bool.xor_true, Bool.xor_false, Bool.true_xor, Bool.false_xor, decide_true, decide_false, Bool.and_true, Bool.true_and, Bool.and_false, Bool.false_and, eq_self, ne_eq, not_false_eq_true, not_true_eq_false, true_and, and_true, and_self]
  refine tab_call 0 (T := fun _ => none1) (T' := rT []) (v := .int .i64 0) [ptr g, .int .i64 5, vec4 0 0 0 0] (.c (.v (.int .i64 0))) Try.call19 (fun w h => by have := begin_c g _ _ 5 z4 w h; rw [begin_r.1, begin_r.2] at this; exact this) rfl rfl (fun _ => rfl) (fun _ => rfl) rfl fun fp1 => ?_
  simp only [go_sem, ↓reduceIte, Nat.reduceEqDiff, Nat.reduceLT, Nat.reduceLeDiff, Nat.reduceAdd, Nat.reduceMul, Nat.reduceSub, Nat.reduceDiv, Nat.reduceMod, Int.reduceToNat, Int.reduceLT, Int.reduceLE, Int.reduceAdd, Int.reduceSub, Int.reduceMul, Int.reduceEq, Int.reduceNeg, reduceCtorEq, or_false, false_or, decide_true, decide_false, Int.cast_ofNat_Int, Nat.zero_add, Nat.add_zero, Int.toNat_natCast, Option.isNone_none, Option.isNone_some, Bool.not_true, Bool.not_false, Bool.xor_true, Bool.xor_false, Bool.true_xor, Bool.false_xor, decide_true, decide_false, Bool.and_true, Bool.true_and, Bool.and_false, Bool.false_and, eq_self, ne_eq, not_false_eq_true, not_true_eq_false, true_and, and_true, and_self, hid, hid2]
  refine sloop (fun p : Nat × List Nat => ⟨[(10, .c (.v (.int .i64 (p.1 : Nat)))), (9, .c (.v (.int .i64 n))), (8, .c (.v (ptr g))), (7, .c (.v (.bool true))), (1, .c (.v (.int .u8 again))), (2, .c (.v (.string value)))], [(0, .pred p.2 (TabIs g (rT (rws (min p.1 8))) p.2))], 1⟩)
    (fun p => p.1 ≤ n) (fun p => n - p.1) (0, fp1) (by simp) (ent_drop ⟨rfl, rfl, rfl, rfl, rfl, rfl, trivial⟩ ⟨rfl, trivial⟩ (by simp)) (fun p hp => ?_)
  obtain ⟨i, fp⟩ := p
  have hi : i ≤ n := hp
  by_cases h : i < n
  · have d0 : decide ((i : Int) < n) = true := by simp; omega
    have w1 : IntKind.i64.wrap ((i : Int) + 1) = ((i + 1 : Nat) : Int) := wrap_i64 _ (by omega) (by omega)
    have w2 : IntKind.i64.wrap (97 + (i : Int)) = 97 + (i : Int) := wrap_i64 _ (by omega) (by omega)
    have w3 : IntKind.u8.wrap (97 + (i : Int)) = 97 + (i : Int) := wrap_u8 _ (by omega) (by omega)
    obtain ⟨q1, q2, q3⟩ := rws_e i (by omega)
    obtain ⟨r1, r2⟩ := write_r (rws (min i 8)) (kw i)
    rw [q1, q2] at r1 r2
    rw [Bool.true_and, q3] at r2
    cases h8 : decide (i < 8)
    · have d1 : decide ((i : Int) < 8) = false := by simp at h8 ⊢; omega
      have d2 : decide ((8 : Int) ≤ i) = true := by simp at h8 ⊢; omega
      rw [h8] at r1
      simp only [go_sem, ↓reduceIte, Nat.reduceEqDiff, Nat.reduceLT, Nat.reduceLeDiff, Nat.reduceAdd, Nat.reduceMul, Nat.reduceSub, Nat.reduceDiv, Nat.reduceMod, Int.reduceToNat, Int.reduceLT, Int.reduceLE, Int.reduceAdd, Int.reduceSub, Int.reduceMul, Int.reduceEq, Int.reduceNeg, reduceCtorEq, or_false, false_or, decide_true, decide_false, Int.cast_ofNat_Int, Nat.zero_add, Nat.add_zero, Int.toNat_natCast, Option.isNone_none, Option.isNone_some, Bool.not_true, Bool.not_false, Bool.xor_true, Bool.xor_false, Bool.true_xor, Bool.false_xor, decide_true, decide_false, Bool.and_true, Bool.true_and, Bool.and_false, Bool.false_and, eq_self, ne_eq, not_false_eq_true, not_true_eq_false, true_and, and_true, and_self, d0, w2, w3]
      refine tab_call 0 (T := rT (rws (min i 8))) (T' := rT (rws (min (i + 1) 8))) (v := .int .i64 4) [ptr g, .int .i64 5, .agg #[.string ⟨#[98]⟩, .string (strB [97 + (i : Int)]), .string .empty, .bool false]] (.c (.v (.int .i64 4))) Try.call25 (fun w h => by have := write_c g _ _ 5 (kw i) w h; rw [r1, r2] at this; exact this) rfl rfl (fun _ => rfl) (fun _ => rfl) rfl fun fp2 => ?_
      simp only [go_sem, ↓reduceIte, Nat.reduceEqDiff, Nat.reduceLT, Nat.reduceLeDiff, Nat.reduceAdd, Nat.reduceMul, Nat.reduceSub, Nat.reduceDiv, Nat.reduceMod, Int.reduceToNat, Int.reduceLT, Int.reduceLE, Int.reduceAdd, Int.reduceSub, Int.reduceMul, Int.reduceEq, Int.reduceNeg, reduceCtorEq, or_false, false_or, decide_true, decide_false, Int.cast_ofNat_Int, Nat.zero_add, Nat.add_zero, Int.toNat_natCast, Option.isNone_none, Option.isNone_some, Bool.not_true, Bool.not_false, Bool.xor_true, Bool.xor_false, Bool.true_xor, Bool.false_xor, decide_true, decide_false, Bool.and_true, Bool.true_and, Bool.and_false, Bool.false_and, eq_self, ne_eq, not_false_eq_true, not_true_eq_false, true_and, and_true, and_self, d1, d2, w1]
      exact ⟨(i + 1, fp2), by show i + 1 ≤ n; omega, by show n - (i + 1) < n - i; omega, ent_low ⟨rfl, rfl, rfl, rfl, rfl, rfl, trivial⟩ ⟨rfl, trivial⟩ (by simp) (by simp [frBl, SV.bl, CV.bl]) (by simp [hpBl, Blk.bl]) (by simp)⟩
    · have d1 : decide ((i : Int) < 8) = true := by simp at h8 ⊢; omega
      have d2 : decide ((8 : Int) ≤ i) = false := by simp at h8 ⊢; omega
      rw [h8] at r1
      simp only [go_sem, ↓reduceIte, Nat.reduceEqDiff, Nat.reduceLT, Nat.reduceLeDiff, Nat.reduceAdd, Nat.reduceMul, Nat.reduceSub, Nat.reduceDiv, Nat.reduceMod, Int.reduceToNat, Int.reduceLT, Int.reduceLE, Int.reduceAdd, Int.reduceSub, Int.reduceMul, Int.reduceEq, Int.reduceNeg, reduceCtorEq, or_false, false_or, decide_true, decide_false, Int.cast_ofNat_Int, Nat.zero_add, Nat.add_zero, Int.toNat_natCast, Option.isNone_none, Option.isNone_some, Bool.not_true, Bool.not_false, Bool.xor_true, Bool.xor_false, Bool.true_xor, Bool.false_xor, decide_true, decide_false, Bool.and_true, Bool.true_and, Bool.and_false, Bool.false_and, eq_self, ne_eq, not_false_eq_true, not_true_eq_false, true_and, and_true, and_self, d0, w2, w3]
      refine tab_call 0 (T := rT (rws (min i 8))) (T' := rT (rws (min (i + 1) 8))) (v := .int .i64 0) [ptr g, .int .i64 5, .agg #[.string ⟨#[98]⟩, .string (strB [97 + (i : Int)]), .string .empty, .bool false]] (.c (.v (.int .i64 0))) Try.call25 (fun w h => by have := write_c g _ _ 5 (kw i) w h; rw [r1, r2] at this; exact this) rfl rfl (fun _ => rfl) (fun _ => rfl) rfl fun fp2 => ?_
      simp only [go_sem, ↓reduceIte, Nat.reduceEqDiff, Nat.reduceLT, Nat.reduceLeDiff, Nat.reduceAdd, Nat.reduceMul, Nat.reduceSub, Nat.reduceDiv, Nat.reduceMod, Int.reduceToNat, Int.reduceLT, Int.reduceLE, Int.reduceAdd, Int.reduceSub, Int.reduceMul, Int.reduceEq, Int.reduceNeg, reduceCtorEq, or_false, false_or, decide_true, decide_false, Int.cast_ofNat_Int, Nat.zero_add, Nat.add_zero, Int.toNat_natCast, Option.isNone_none, Option.isNone_some, Bool.not_true, Bool.not_false, Bool.xor_true, Bool.xor_false, Bool.true_xor, Bool.false_xor, decide_true, decide_false, Bool.and_true, Bool.true_and, Bool.and_false, Bool.false_and, eq_self, ne_eq, not_false_eq_true, not_true_eq_false, true_and, and_true, and_self, d1, d2, w1]
      exact ⟨(i + 1, fp2), by show i + 1 ≤ n; omega, by show n - (i + 1) < n - i; omega, ent_low ⟨rfl, rfl, rfl, rfl, rfl, rfl, trivial⟩ ⟨rfl, trivial⟩ (by simp) (by simp [frBl, SV.bl, CV.bl]) (by simp [hpBl, Blk.bl]) (by simp)⟩
  · obtain rfl : i = n := by omega
    have d0 : decide ((i : Int) < i) = false := by simp
    obtain ⟨m, hm⟩ : ∃ m, m = min i 8 := ⟨_, rfl⟩
    have hm1 : 1 ≤ m ∧ m ≤ 8 := by omega
    have c1 : min (i : Int) 8 = (m : Int) := by omega
    have c2 : ¬ (m : Int) = 0 := by omega
    have c3 : IntKind.i64.wrap (again : Int) = (again : Int) := wrap_i64 _ (by omega) (by omega)
    have c4 : (again : Int).tmod m = ((again % m : Nat) : Int) := rfl
    have hk : again % m < m := Nat.mod_lt _ (by omega)
    generalize again % m = k at c4 hk
    have w2 : IntKind.i64.wrap (97 + (k : Int)) = 97 + (k : Int) := wrap_i64 _ (by omega) (by omega)
    have w3 : IntKind.u8.wrap (97 + (k : Int)) = 97 + (k : Int) := wrap_u8 _ (by omega) (by omega)
    obtain ⟨q, hq, hq2, hq3⟩ : ∃ q : Nat, min (value.size : Int) 32 = (q : Int) ∧ q ≤ 32 ∧ q ≤ value.size := ⟨min value.size 32, by omega, by omega, by omega⟩
    have c5 : (0 : Int) ≤ q ∧ (q : Int) ≤ value.size := by omega
    have c6 : (0 : Int) ≤ 0 ∧ (0 : Int) ≤ q := by omega
    obtain ⟨val, hval⟩ : ∃ val, val = value.extract 0 q := ⟨_, rfl⟩
    have hvs : val.size ≤ 32 := by rw [hval, ByteArray.size_extract]; omega
    have x1 := write_r (rws m) ⟨⟨#[98]⟩, rkey k, val, false⟩
    have x2 : Wr.right ⟨⟨#[98]⟩, rkey k, val, false⟩ = true := by
      have h98 : namedB (⟨#[98]⟩ : ByteArray) = true := by decide
      simp [Wr.right, h98, rkey_named k (by omega)]; omega
    have x3 := rws_f m (by omega) k hk
    have x4 : fits (rws m) ⟨⟨#[98]⟩, rkey k, val, false⟩ = true := by simp [fits, x3]
    have x5 : putW (rws m) ⟨⟨#[98]⟩, rkey k, val, false⟩ = (rws m).set k ⟨⟨#[98]⟩, rkey k, val, false⟩ := by simp [putW, x3]
    rw [x2, x4, x5] at x1
    obtain ⟨x1, x6⟩ := x1
    have hl : ((rws m).set k ⟨⟨#[98]⟩, rkey k, val, false⟩).length = m := by rw [List.length_set, rws_len]
    have hg : ((rws m).set k ⟨⟨#[98]⟩, rkey k, val, false⟩)[k]? = some ⟨⟨#[98]⟩, rkey k, val, false⟩ := by
      rw [List.getElem?_set_self (by rw [rws_len]; exact hk)]
    rw [← hm]
    generalize (rws m).set k ⟨⟨#[98]⟩, rkey k, val, false⟩ = ws at x6 hl hg
    have hrow := wrow_eq hg
    have c7 : (0 : Int) ≤ k ∧ (k : Int) < m := by omega
    simp only [go_sem, ↓reduceIte, Nat.reduceEqDiff, Nat.reduceLT, Nat.reduceLeDiff, Nat.reduceAdd, Nat.reduceMul, Nat.reduceSub, Nat.reduceDiv, Nat.reduceMod, Int.reduceToNat, Int.reduceLT, Int.reduceLE, Int.reduceAdd, Int.reduceSub, Int.reduceMul, Int.reduceEq, Int.reduceNeg, reduceCtorEq, or_false, false_or, decide_true, decide_false, Int.cast_ofNat_Int, Nat.zero_add, Nat.add_zero, Int.toNat_natCast, Option.isNone_none, Option.isNone_some, Bool.not_true, Bool.not_false, Bool.xor_true, Bool.xor_false, Bool.true_xor, Bool.false_xor, decide_true, decide_false, Bool.and_true, Bool.true_and, Bool.and_false, Bool.false_and, eq_self, ne_eq, not_false_eq_true, not_true_eq_false, true_and, and_true, and_self, d0, c1, c2, c3, c4]
    refine sdraw0 [.t 0, .t 1, .t 2, .t 5, .t 6, .t 7, .t 8, .t 9, .c 3 [.c 4 [.t 10, .r 11, .r 12] 11 [.r 4, .t 10, .r 12]] 11 [.r 3, .r 4, .t 10, .r 12]] 12 rfl (by kernel_rfl) ?_
    simp only [go_sem, ↓reduceIte, Nat.reduceEqDiff, Nat.reduceLT, Nat.reduceLeDiff, Nat.reduceAdd, Nat.reduceMul, Nat.reduceSub, Nat.reduceDiv, Nat.reduceMod, Int.reduceToNat, Int.reduceLT, Int.reduceLE, Int.reduceAdd, Int.reduceSub, Int.reduceMul, Int.reduceEq, Int.reduceNeg, reduceCtorEq, or_false, false_or, decide_true, decide_false, Int.cast_ofNat_Int, Nat.zero_add, Nat.add_zero, Int.toNat_natCast, Option.isNone_none, Option.isNone_some, Bool.not_true, Bool.not_false, Bool.xor_true, Bool.xor_false, Bool.true_xor, Bool.false_xor, decide_true, decide_false, Bool.and_true, Bool.true_and, Bool.and_false, Bool.false_and, eq_self, ne_eq, not_false_eq_true, not_true_eq_false, true_and, and_true, and_self, w2, w3, hq, c5, c6]
    have key : value.extract 0 q = val := hval.symm
    have hne : ws ≠ [] := fun e => by rw [e] at hl; simp at hl; omega
    have c8 : decide ((8 : Int) ≤ m) = decide ((8 : Int) ≤ m) := rfl
    refine ⟨⟨?_, ?_⟩, ?_⟩
    all_goals
      rw [key]
      refine tab_call 0 (T := rT (rws m)) (T' := rT ws) (v := .int .i64 0) [ptr g, .int .i64 5, .agg #[.string ⟨#[98]⟩, .string (strB [97 + (k : Int)]), .string val, .bool false]] (.c (.v (.int .i64 0))) Try.call25 (fun w h => by have := write_c g _ _ 5 ⟨⟨#[98]⟩, rkey k, val, false⟩ w h; rw [x1, x6] at this; exact this) rfl rfl (fun _ => rfl) (fun _ => rfl) rfl fun fp2 => ?_
      simp only [go_sem, ↓reduceIte, Nat.reduceEqDiff, Nat.reduceLT, Nat.reduceLeDiff, Nat.reduceAdd, Nat.reduceMul, Nat.reduceSub, Nat.reduceDiv, Nat.reduceMod, Int.reduceToNat, Int.reduceLT, Int.reduceLE, Int.reduceAdd, Int.reduceSub, Int.reduceMul, Int.reduceEq, Int.reduceNeg, reduceCtorEq, or_false, false_or, decide_true, decide_false, Int.cast_ofNat_Int, Nat.zero_add, Nat.add_zero, Int.toNat_natCast, Option.isNone_none, Option.isNone_some, Bool.not_true, Bool.not_false, Bool.xor_true, Bool.xor_false, Bool.true_xor, Bool.false_xor, decide_true, decide_false, Bool.and_true, Bool.true_and, Bool.and_false, Bool.false_and, eq_self, ne_eq, not_false_eq_true, not_true_eq_false, true_and, and_true, and_self]
      refine tab_writes 0 (T := rT ws) (ws := ws) [ptr g, .int .i64 5] Try.call32 (fun w h => by have := writes_c g (rT ws) _ 5 w h; rw [isWs_r] at this; exact this) rfl rfl (fun _ => rfl) rfl (fun h => absurd h hne) (fun c hc => ?_)
      simp only [go_sem, ↓reduceIte, Nat.reduceEqDiff, Nat.reduceLT, Nat.reduceLeDiff, Nat.reduceAdd, Nat.reduceMul, Nat.reduceSub, Nat.reduceDiv, Nat.reduceMod, Int.reduceToNat, Int.reduceLT, Int.reduceLE, Int.reduceAdd, Int.reduceSub, Int.reduceMul, Int.reduceEq, Int.reduceNeg, reduceCtorEq, or_false, false_or, decide_true, decide_false, Int.cast_ofNat_Int, Nat.zero_add, Nat.add_zero, Int.toNat_natCast, Option.isNone_none, Option.isNone_some, Bool.not_true, Bool.not_false, Bool.xor_true, Bool.xor_false, Bool.true_xor, Bool.false_xor, decide_true, decide_false, Bool.and_true, Bool.true_and, Bool.and_false, Bool.false_and, eq_self, ne_eq, not_false_eq_true, not_true_eq_false, true_and, and_true, and_self]
      refine sdraw0 [.t 0, .t 1, .t 2, .t 3, .t 4, .t 5, .t 6, .t 7, .t 8, .t 9, .t 10, .t 11, .t 12, .t 13, .t 14, .t 15, .t 16, .t 17, .t 18, .t 19, .t 20] 21 rfl (by kernel_rfl) ?_
      simp only [go_sem, ↓reduceIte, Nat.reduceEqDiff, Nat.reduceLT, Nat.reduceLeDiff, Nat.reduceAdd, Nat.reduceMul, Nat.reduceSub, Nat.reduceDiv, Nat.reduceMod, Int.reduceToNat, Int.reduceLT, Int.reduceLE, Int.reduceAdd, Int.reduceSub, Int.reduceMul, Int.reduceEq, Int.reduceNeg, reduceCtorEq, or_false, false_or, decide_true, decide_false, Int.cast_ofNat_Int, Nat.zero_add, Nat.add_zero, Int.toNat_natCast, Option.isNone_none, Option.isNone_some, Bool.not_true, Bool.not_false, Bool.xor_true, Bool.xor_false, Bool.true_xor, Bool.false_xor, decide_true, decide_false, Bool.and_true, Bool.true_and, Bool.and_false, Bool.false_and, eq_self, ne_eq, not_false_eq_true, not_true_eq_false, true_and, and_true, and_self, c1, hl, c7, hk, hrow, rkey]
      exact fun ρ a w hs _ => ⟨rfl, hs.grown⟩
end Go.Proofs.Ytfokingbglkmjaa
