/-
  The disk: Crash. Conditions: none.
-/
import Derived.Test.YtfokingbglkmjaaDisk2
namespace Go.Proofs.Ytfokingbglkmjaa
open Go.RowKit Go.Sx
set_option linter.unusedVariables false
set_option linter.unusedSimpArgs false
set_option linter.unusedSectionVars false

theorem and_one (x : Nat) (hx : x < 2 ^ 64) : ibit .and .u64 (x : Int) 1 = ((x % 2 : Nat) : Int) := by
  have h1 : (BitVec.ofInt 64 (x : Int)).toNat = x := by simp [BitVec.toNat_ofInt]; omega
  have h2 : (BitVec.ofInt 64 (x : Int) &&& BitVec.ofInt 64 1).toNat = x % 2 := by
    rw [BitVec.toNat_and, h1]
    show x &&& 1 = _
    exact Nat.and_one_is_mod x
  show IntKind.u64.wrap ((BitVec.ofInt 64 (x : Int) &&& BitVec.ofInt 64 1).toNat : Int) = _
  rw [h2]
  exact wrap_u64 _ (by omega) (by omega)
theorem shr_at (x k : Nat) (hk : k ≤ 64) : (x : Int).fdiv (2 ^ (min k 64)) = ((x / 2 ^ k : Nat) : Int) := by
  rw [Nat.min_eq_left hk, Int.fdiv_eq_ediv_of_nonneg _ (by exact_mod_cast Nat.zero_le _)]
  simp
def zeros (n : Nat) : ByteArray := ⟨(Lib.repeatL [0] n).toArray⟩
theorem zeros_size (n : Nat) : (zeros n).size = n := by simp [zeros, ByteArray.size, Lib.repeatL_length]
def keptB (kept k : Nat) : Bool := decide (kept / 2 ^ k % 2 = 1)
def crPiece (kept k : Nat) (s : ByteArray) : ByteArray := if keptB kept k then s else zeros s.size
theorem crPiece_size (kept k : Nat) (s : ByteArray) : (crPiece kept k s).size = s.size := by unfold crPiece; split <;> simp [zeros_size]
def crOut (kept : Nat) (fast : ByteArray) (late : List ByteArray) : Nat → ByteArray
  | 0 => fast
  | n + 1 => crOut kept fast late n ++ crPiece kept n (late.getD n .empty)
theorem cat_size (l : List ByteArray) : (cat l).size = (l.map (·.size)).sum := by
  simp only [cat, join_flat, ByteArray.size, List.size_toArray, List.length_flatten, List.map_map]
  rfl
theorem crOut_size (kept : Nat) (fast : ByteArray) (late : List ByteArray) : ∀ n, n ≤ late.length → (crOut kept fast late n).size = fast.size + (cat (late.take n)).size
  | 0, _ => by simp [crOut, cat_nil]
  | n + 1, h => by
    have h1 : late[n]? = some late[n] := List.getElem?_eq_getElem (by omega)
    rw [crOut, ByteArray.size_append, crOut_size kept fast late n (by omega), crPiece_size, List.take_add_one, h1]
    show _ = _ + (cat (late.take n ++ [late[n]])).size
    rw [cat_snoc, ByteArray.size_append, List.getD_eq_getElem?_getD, h1]
    simp [Nat.add_assoc]
theorem cat_take (l : List ByteArray) (n : Nat) : (cat (l.take n)).size ≤ (cat l).size := by
  rw [cat_size, cat_size]
  have := congrArg (fun l : List ByteArray => (l.map (·.size)).sum) (List.take_append_drop n l)
  simp only [List.map_append, List.sum_append] at this
  omega
theorem zero_c (n : Nat) (h : n ≤ 140737488355328) (w : World) : Calls Try.prog 96 #[.string ⟨#[0]⟩, .int .i64 n] w fun e w' => e = .returned (.string (zeros n)) ∧ Below w.heap.size w w' :=
  Try.strings_Repeat ⟨#[0]⟩ n w (by omega) (by show 1 * n ≤ _; omega)
def crSt (d : Dk) (kept c k : Nat) : St :=
  ⟨[(18, .c (.v (.int .i64 k))), (17, .c (.v (.int .i64 d.late.length))), (16, .c (.s 1 0 d.late.length c)), (4, .c (.v (.string (crOut kept d.fast d.late k)))), (0, .c (.p 0 0 0)), (1, .c (.v (.int .u64 kept)))],
   [(0, .cells 179 [.v (.string d.fast), .s 1 0 d.late.length c, .v (.int .i64 d.room), .v (.bool d.held)]), (1, .rows 9 1 d.late.length c (dkLate d))], 2⟩
def crD (d : Dk) (kept : Nat) : Dk := setD d (crOut kept d.fast d.late d.late.length)

set_option maxRecDepth 100000 in
theorem dcrash_c (g : Nat) (d : Dk) (kept : Nat) (hk : kept < 2 ^ 64) (hs : d.small) (fp : List Nat) (w : World) (h : On g (DSh d) fp w) : Calls Try.prog 52 #[gptr g, .int .u64 kept] w (Turn g fp (.tuple #[]) (DSh (crD d kept)) w) := by
  refine on_calls h 42 _ Try.func52 rfl Try.ntmps52 Try.results52 [.c (.p 0 0 0), .c (.v (.int .u64 kept))] (by simp) (fun ρ' h1 h2 => by simp [SV.denL, SV.den, CV.den, gptr, h1, h2]) (fun ρ nx hp hsh hg hb => ?_)
  have hc := Dk.cat_small hs
  have hl2 := hs.2
  have ht : d.fast.size + (cat d.late).size ≤ 1073741824 := by have := hs.1; unfold Dk.all at this; rwa [ByteArray.size_append] at this
  rcases hsh with ⟨hn, rfl, rfl⟩ | ⟨c, ⟨hl, hp0⟩, rfl, rfl⟩
  · simp only [go_sem, ↓reduceIte, Nat.reduceEqDiff, Nat.reduceLT, Nat.reduceLeDiff, Nat.reduceAdd, Nat.reduceMul, Nat.reduceSub, Nat.reduceDiv, Nat.reduceMod, Int.reduceToNat, Int.reduceLT, Int.reduceLE, Int.reduceAdd, Int.reduceSub, Int.reduceMul, Int.reduceEq, Int.reduceNeg, reduceCtorEq, or_false, false_or, decide_true, decide_false, Int.cast_ofNat_Int, Nat.zero_add, Nat.add_zero, Int.toNat_natCast, Option.isNone_none, Option.isNone_some, Bool.not_true, Bool.not_false, Bool.xor_true, Bool.xor_false, Bool.true_xor, Bool.false_xor, decide_true, decide_false, Bool.and_true, Bool.true_and, Bool.and_false, Bool.false_and, eq_self, ne_eq, not_false_eq_true, not_true_eq_false, true_and, and_true, and_self]
    refine sloop_rounds 1 ?_
    simp only [go_sem, ↓reduceIte, Nat.reduceEqDiff, Nat.reduceLT, Nat.reduceLeDiff, Nat.reduceAdd, Nat.reduceMul, Nat.reduceSub, Nat.reduceDiv, Nat.reduceMod, Int.reduceToNat, Int.reduceLT, Int.reduceLE, Int.reduceAdd, Int.reduceSub, Int.reduceMul, Int.reduceEq, Int.reduceNeg, reduceCtorEq, or_false, false_or, decide_true, decide_false, Int.cast_ofNat_Int, Nat.zero_add, Nat.add_zero, Int.toNat_natCast, Option.isNone_none, Option.isNone_some, Bool.not_true, Bool.not_false, Bool.xor_true, Bool.xor_false, Bool.true_xor, Bool.false_xor, decide_true, decide_false, Bool.and_true, Bool.true_and, Bool.and_false, Bool.false_and, eq_self, ne_eq, not_false_eq_true, not_true_eq_false, true_and, and_true, and_self]
    refine scall_in 12 _ Try.func94 rfl Try.ntmps94 Try.results94 Try.call94 ?_
    simp only [go_sem, ↓reduceIte, Nat.reduceEqDiff, Nat.reduceLT, Nat.reduceLeDiff, Nat.reduceAdd, Nat.reduceMul, Nat.reduceSub, Nat.reduceDiv, Nat.reduceMod, Int.reduceToNat, Int.reduceLT, Int.reduceLE, Int.reduceAdd, Int.reduceSub, Int.reduceMul, Int.reduceEq, Int.reduceNeg, reduceCtorEq, or_false, false_or, decide_true, decide_false, Int.cast_ofNat_Int, Nat.zero_add, Nat.add_zero, Int.toNat_natCast, Option.isNone_none, Option.isNone_some, Bool.not_true, Bool.not_false, Bool.xor_true, Bool.xor_false, Bool.true_xor, Bool.false_xor, decide_true, decide_false, Bool.and_true, Bool.true_and, Bool.and_false, Bool.false_and, eq_self, ne_eq, not_false_eq_true, not_true_eq_false, true_and, and_true, and_self]
    refine fun ρ' a w' hs' hag => ?_
    obtain ⟨fp', hon, hch⟩ := dk_end0 (d := crD d kept) rfl rfl hs' ((congrArg Nm.blk (hag 0 Nat.zero_lt_one)).trans hg) ((congrArg Nm.base (hag 0 Nat.zero_lt_one)).trans hb) (by simp [crD, setD, hn, crOut]; rfl) rfl
    exact ⟨fp', rfl, hon, hch⟩
  · simp only [go_sem, ↓reduceIte, Nat.reduceEqDiff, Nat.reduceLT, Nat.reduceLeDiff, Nat.reduceAdd, Nat.reduceMul, Nat.reduceSub, Nat.reduceDiv, Nat.reduceMod, Int.reduceToNat, Int.reduceLT, Int.reduceLE, Int.reduceAdd, Int.reduceSub, Int.reduceMul, Int.reduceEq, Int.reduceNeg, reduceCtorEq, or_false, false_or, decide_true, decide_false, Int.cast_ofNat_Int, Nat.zero_add, Nat.add_zero, Int.toNat_natCast, Option.isNone_none, Option.isNone_some, Bool.not_true, Bool.not_false, Bool.xor_true, Bool.xor_false, Bool.true_xor, Bool.false_xor, decide_true, decide_false, Bool.and_true, Bool.true_and, Bool.and_false, Bool.false_and, eq_self, ne_eq, not_false_eq_true, not_true_eq_false, true_and, and_true, and_self]
    refine sloop (fun k : Nat => crSt d kept c k) (fun k => k ≤ d.late.length) (fun k => d.late.length - k) 0 (by simp) (ent_drop ⟨rfl, rfl, rfl, rfl, rfl, rfl, trivial⟩ ⟨rfl, rfl, trivial⟩ (by simp)) (fun k hk1 => ?_)
    have hk1 : k ≤ d.late.length := hk1
    by_cases hlt : k < d.late.length
    · have d0 : decide ((k : Int) < d.late.length) = true := by simp; omega
      have d3 : (0 : Int) ≤ k ∧ (k : Int) < d.late.length := by omega
      have w1 : IntKind.i64.wrap ((k : Int) + 1) = ((k + 1 : Nat) : Int) := wrap_i64 _ (by omega) (by omega)
      obtain ⟨s, hsd⟩ : ∃ s, d.late.getD k .empty = s := ⟨_, rfl⟩
      have hrow : dkLate d k = [.v (.string s)] := by simp only [dkLate, hsd]
      have hstep : crOut kept d.fast d.late (k + 1) = crOut kept d.fast d.late k ++ crPiece kept k s := by rw [crOut, hsd]
      have e1 := crOut_size kept d.fast d.late (k + 1) (by omega)
      have e2 := cat_take d.late (k + 1)
      rw [hstep, ByteArray.size_append, crPiece_size] at e1
      have hsz : s.size ≤ 1073741824 := by omega
      by_cases hbig : 64 ≤ k
      · have d1 : decide ((64 : Int) ≤ k) = true := by simp; omega
        have hkb : keptB kept k = false := by
          unfold keptB
          have : kept / 2 ^ k = 0 := Nat.div_eq_of_lt (Nat.lt_of_lt_of_le hk (Nat.pow_le_pow_right (by omega) hbig))
          rw [this]; rfl
        have hpc : crPiece kept k s = zeros s.size := by unfold crPiece; rw [hkb]; rfl
        have h7 : (crOut kept d.fast d.late k).size + (zeros s.size).size ≤ 9223372036854775807 := by rw [zeros_size]; omega
        simp only [crSt]
        simp only [go_sem, ↓reduceIte, Nat.reduceEqDiff, Nat.reduceLT, Nat.reduceLeDiff, Nat.reduceAdd, Nat.reduceMul, Nat.reduceSub, Nat.reduceDiv, Nat.reduceMod, Int.reduceToNat, Int.reduceLT, Int.reduceLE, Int.reduceAdd, Int.reduceSub, Int.reduceMul, Int.reduceEq, Int.reduceNeg, reduceCtorEq, or_false, false_or, decide_true, decide_false, Int.cast_ofNat_Int, Nat.zero_add, Nat.add_zero, Int.toNat_natCast, Option.isNone_none, Option.isNone_some, Bool.not_true, Bool.not_false, Bool.xor_true, Bool.xor_false, Bool.true_xor, Bool.false_xor, decide_true, decide_false, Bool.and_true, Bool.true_and, Bool.and_false, Bool.false_and, eq_self, ne_eq, not_false_eq_true, not_true_eq_false, true_and, and_true, and_self, d0, d1, d3, hrow, hlt]
        refine scall_pure [.string ⟨#[0]⟩, .int .i64 s.size] (.c (.v (.string (zeros s.size)))) (.string (zeros s.size)) Try.call96 (zero_c s.size (by omega)) rfl (fun _ => rfl) (fun _ => rfl) ?_
        simp only [go_sem, ↓reduceIte, Nat.reduceEqDiff, Nat.reduceLT, Nat.reduceLeDiff, Nat.reduceAdd, Nat.reduceMul, Nat.reduceSub, Nat.reduceDiv, Nat.reduceMod, Int.reduceToNat, Int.reduceLT, Int.reduceLE, Int.reduceAdd, Int.reduceSub, Int.reduceMul, Int.reduceEq, Int.reduceNeg, reduceCtorEq, or_false, false_or, decide_true, decide_false, Int.cast_ofNat_Int, Nat.zero_add, Nat.add_zero, Int.toNat_natCast, Option.isNone_none, Option.isNone_some, Bool.not_true, Bool.not_false, Bool.xor_true, Bool.xor_false, Bool.true_xor, Bool.false_xor, decide_true, decide_false, Bool.and_true, Bool.true_and, Bool.and_false, Bool.false_and, eq_self, ne_eq, not_false_eq_true, not_true_eq_false, true_and, and_true, and_self, h7, w1]
        refine ⟨k + 1, by show k + 1 ≤ d.late.length; omega, by show d.late.length - (k + 1) < d.late.length - k; omega, ?_⟩
        show Ent _ _ (crSt d kept c (k + 1))
        rw [crSt, hstep, hpc]
        exact ent_drop ⟨rfl, rfl, rfl, rfl, rfl, rfl, trivial⟩ ⟨rfl, rfl, trivial⟩ (by simp)
      · have d1 : decide ((64 : Int) ≤ k) = false := by simp; omega
        have d4 := shr_at kept k (by omega)
        have d5 : (0 : Int) ≤ k := by omega
        have d6 := and_one (kept / 2 ^ k) (Nat.lt_of_le_of_lt (Nat.div_le_self _ _) hk)
        obtain ⟨b, hb2⟩ : ∃ b, keptB kept k = b := ⟨_, rfl⟩
        have d7 : decide (((kept / 2 ^ k % 2 : Nat) : Int) = 0) = !b := by
          rw [← hb2]; unfold keptB
          rcases Nat.mod_two_eq_zero_or_one (kept / 2 ^ k) with h | h <;> rw [h] <;> rfl
        cases b
        · have hpc : crPiece kept k s = zeros s.size := by unfold crPiece; rw [hb2]; rfl
          have h7 : (crOut kept d.fast d.late k).size + (zeros s.size).size ≤ 9223372036854775807 := by rw [zeros_size]; omega
          simp only [crSt]
          simp only [go_sem, ↓reduceIte, Nat.reduceEqDiff, Nat.reduceLT, Nat.reduceLeDiff, Nat.reduceAdd, Nat.reduceMul, Nat.reduceSub, Nat.reduceDiv, Nat.reduceMod, Int.reduceToNat, Int.reduceLT, Int.reduceLE, Int.reduceAdd, Int.reduceSub, Int.reduceMul, Int.reduceEq, Int.reduceNeg, reduceCtorEq, or_false, false_or, decide_true, decide_false, Int.cast_ofNat_Int, Nat.zero_add, Nat.add_zero, Int.toNat_natCast, Option.isNone_none, Option.isNone_some, Bool.not_true, Bool.not_false, Bool.xor_true, Bool.xor_false, Bool.true_xor, Bool.false_xor, decide_true, decide_false, Bool.and_true, Bool.true_and, Bool.and_false, Bool.false_and, eq_self, ne_eq, not_false_eq_true, not_true_eq_false, true_and, and_true, and_self, d0, d1, d3, hrow, hlt, d4, d5, d6, d7]
          refine scall_pure [.string ⟨#[0]⟩, .int .i64 s.size] (.c (.v (.string (zeros s.size)))) (.string (zeros s.size)) Try.call96 (zero_c s.size (by omega)) rfl (fun _ => rfl) (fun _ => rfl) ?_
          simp only [go_sem, ↓reduceIte, Nat.reduceEqDiff, Nat.reduceLT, Nat.reduceLeDiff, Nat.reduceAdd, Nat.reduceMul, Nat.reduceSub, Nat.reduceDiv, Nat.reduceMod, Int.reduceToNat, Int.reduceLT, Int.reduceLE, Int.reduceAdd, Int.reduceSub, Int.reduceMul, Int.reduceEq, Int.reduceNeg, reduceCtorEq, or_false, false_or, decide_true, decide_false, Int.cast_ofNat_Int, Nat.zero_add, Nat.add_zero, Int.toNat_natCast, Option.isNone_none, Option.isNone_some, Bool.not_true, Bool.not_false, Bool.xor_true, Bool.xor_false, Bool.true_xor, Bool.false_xor, decide_true, decide_false, Bool.and_true, Bool.true_and, Bool.and_false, Bool.false_and, eq_self, ne_eq, not_false_eq_true, not_true_eq_false, true_and, and_true, and_self, h7, w1]
          refine ⟨k + 1, by show k + 1 ≤ d.late.length; omega, by show d.late.length - (k + 1) < d.late.length - k; omega, ?_⟩
          show Ent _ _ (crSt d kept c (k + 1))
          rw [crSt, hstep, hpc]
          exact ent_drop ⟨rfl, rfl, rfl, rfl, rfl, rfl, trivial⟩ ⟨rfl, rfl, trivial⟩ (by simp)
        · have hpc : crPiece kept k s = s := by unfold crPiece; rw [hb2]; rfl
          have h7 : (crOut kept d.fast d.late k).size + s.size ≤ 9223372036854775807 := by omega
          simp only [crSt]
          simp only [go_sem, ↓reduceIte, Nat.reduceEqDiff, Nat.reduceLT, Nat.reduceLeDiff, Nat.reduceAdd, Nat.reduceMul, Nat.reduceSub, Nat.reduceDiv, Nat.reduceMod, Int.reduceToNat, Int.reduceLT, Int.reduceLE, Int.reduceAdd, Int.reduceSub, Int.reduceMul, Int.reduceEq, Int.reduceNeg, reduceCtorEq, or_false, false_or, decide_true, decide_false, Int.cast_ofNat_Int, Nat.zero_add, Nat.add_zero, Int.toNat_natCast, Option.isNone_none, Option.isNone_some, Bool.not_true, Bool.not_false, Bool.xor_true, Bool.xor_false, Bool.true_xor, Bool.false_xor, decide_true, decide_false, Bool.and_true, Bool.true_and, Bool.and_false, Bool.false_and, eq_self, ne_eq, not_false_eq_true, not_true_eq_false, true_and, and_true, and_self, d0, d1, d3, hrow, hlt, d4, d5, d6, d7, h7, w1]
          refine ⟨k + 1, by show k + 1 ≤ d.late.length; omega, by show d.late.length - (k + 1) < d.late.length - k; omega, ?_⟩
          show Ent _ _ (crSt d kept c (k + 1))
          rw [crSt, hstep, hpc]
          exact ent_drop ⟨rfl, rfl, rfl, rfl, rfl, rfl, trivial⟩ ⟨rfl, rfl, trivial⟩ (by simp)
    · obtain rfl : k = d.late.length := by omega
      have d0 : decide ((d.late.length : Int) < d.late.length) = false := by simp
      simp only [crSt]
      simp only [go_sem, ↓reduceIte, Nat.reduceEqDiff, Nat.reduceLT, Nat.reduceLeDiff, Nat.reduceAdd, Nat.reduceMul, Nat.reduceSub, Nat.reduceDiv, Nat.reduceMod, Int.reduceToNat, Int.reduceLT, Int.reduceLE, Int.reduceAdd, Int.reduceSub, Int.reduceMul, Int.reduceEq, Int.reduceNeg, reduceCtorEq, or_false, false_or, decide_true, decide_false, Int.cast_ofNat_Int, Nat.zero_add, Nat.add_zero, Int.toNat_natCast, Option.isNone_none, Option.isNone_some, Bool.not_true, Bool.not_false, Bool.xor_true, Bool.xor_false, Bool.true_xor, Bool.false_xor, decide_true, decide_false, Bool.and_true, Bool.true_and, Bool.and_false, Bool.false_and, eq_self, ne_eq, not_false_eq_true, not_true_eq_false, true_and, and_true, and_self, d0]
      refine scall_in 12 _ Try.func94 rfl Try.ntmps94 Try.results94 Try.call94 ?_
      simp only [go_sem, ↓reduceIte, Nat.reduceEqDiff, Nat.reduceLT, Nat.reduceLeDiff, Nat.reduceAdd, Nat.reduceMul, Nat.reduceSub, Nat.reduceDiv, Nat.reduceMod, Int.reduceToNat, Int.reduceLT, Int.reduceLE, Int.reduceAdd, Int.reduceSub, Int.reduceMul, Int.reduceEq, Int.reduceNeg, reduceCtorEq, or_false, false_or, decide_true, decide_false, Int.cast_ofNat_Int, Nat.zero_add, Nat.add_zero, Int.toNat_natCast, Option.isNone_none, Option.isNone_some, Bool.not_true, Bool.not_false, Bool.xor_true, Bool.xor_false, Bool.true_xor, Bool.false_xor, decide_true, decide_false, Bool.and_true, Bool.true_and, Bool.and_false, Bool.false_and, eq_self, ne_eq, not_false_eq_true, not_true_eq_false, true_and, and_true, and_self]
      refine fun ρ' a w' hs' hag => ?_
      obtain ⟨fp', hon, hch⟩ := dk_end0 (d := crD d kept) rfl rfl hs' ((congrArg Nm.blk (hag 0 Nat.zero_lt_two)).trans hg) ((congrArg Nm.base (hag 0 Nat.zero_lt_two)).trans hb) rfl rfl
      exact ⟨fp', rfl, hon, hch⟩
end Go.Proofs.Ytfokingbglkmjaa
