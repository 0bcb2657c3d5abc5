/-
  Cut, only the first bytes are left, and synced; it may not be cut to more than there is, nor to less than nothing. Conditions: none.
-/
import Derived.Test.YtfokingbglkmjaaDiskA
namespace Go.Proofs.Ytfokingbglkmjaa
open Go.RowKit Go.Sx
set_option linter.unusedVariables false
set_option linter.unusedSimpArgs false

def c0 (room : Int) : Dk := ⟨⟨#[]⟩, [], room, false⟩
def c1 (room : Int) (s : ByteArray) : Dk := ⟨⟨#[]⟩, [s], room, false⟩
theorem e_append (a : ByteArray) : (⟨#[]⟩ : ByteArray) ++ a = a := by
  apply ByteArray.ext; simp
theorem cat_one (s : ByteArray) : cat [s] = s := by
  have := cat_snoc [] s
  rw [List.nil_append] at this
  rw [this, cat_nil]; exact e_append s
theorem c1_all (room : Int) (s : ByteArray) : (c1 room s).all = s := by
  unfold Dk.all c1; rw [cat_one]; exact e_append s
theorem c0_all (room : Int) : (c0 room).all = ⟨#[]⟩ := rfl
theorem c0_small (room : Int) : (c0 room).small := by unfold Dk.small; rw [c0_all]; exact ⟨Nat.zero_le _, Nat.zero_le _⟩
theorem setD_all (d : Dk) (s : ByteArray) : (setD d s).all = s := append_e s

set_option maxRecDepth 100000 in
theorem dcuts_c (w : World) (s : ByteArray) (size : Int) (near : Bool) :
    Calls Try.prog 11 #[.string s, .int .i64 size, .bool near] w fun e w' => e = .returned (.bool true) ∧ Below w.heap.size w w' := by
  refine calls_pure 81 _ Try.func11 rfl Try.ntmps11 Try.results11 [.c (.v (.string s)), .c (.v (.int .i64 size)), .c (.v (.bool near))] (by simp) (fun _ => rfl) ?_
  simp only [go_sem, ↓reduceIte, Nat.reduceEqDiff, Nat.reduceLT, Nat.reduceLeDiff, Nat.reduceAdd, Nat.reduceMul, Nat.reduceSub, Nat.reduceDiv, Nat.reduceMod, Int.reduceToNat, Int.reduceLT, Int.reduceLE, Int.reduceAdd, Int.reduceSub, Int.reduceMul, Int.reduceEq, Int.reduceNeg, reduceCtorEq, or_false, false_or, decide_true, decide_false, Int.cast_ofNat_Int, Nat.zero_add, Nat.add_zero, Int.toNat_natCast, Option.isNone_none, Option.isNone_some, Bool.not_true, Bool.not_false, Bool.xor_true, Bool.xor_false, Bool.true_xor, Bool.false_xor, decide_true, decide_false, Bool.and_true, Bool.true_and, Bool.and_false, Bool.false_and, eq_self, ne_eq, not_false_eq_true, not_true_eq_false, true_and, and_true, and_self]
  refine scall_pure [] (.c (.v (.bool true))) (.bool true) Try.call46 ex11_c rfl (fun _ => rfl) (fun _ => rfl) ?_
  simp only [go_sem, ↓reduceIte, Nat.reduceEqDiff, Nat.reduceLT, Nat.reduceLeDiff, Nat.reduceAdd, Nat.reduceMul, Nat.reduceSub, Nat.reduceDiv, Nat.reduceMod, Int.reduceToNat, Int.reduceLT, Int.reduceLE, Int.reduceAdd, Int.reduceSub, Int.reduceMul, Int.reduceEq, Int.reduceNeg, reduceCtorEq, or_false, false_or, decide_true, decide_false, Int.cast_ofNat_Int, Nat.zero_add, Nat.add_zero, Int.toNat_natCast, Option.isNone_none, Option.isNone_some, Bool.not_true, Bool.not_false, Bool.xor_true, Bool.xor_false, Bool.true_xor, Bool.false_xor, decide_true, decide_false, Bool.and_true, Bool.true_and, Bool.and_false, Bool.false_and, eq_self, ne_eq, not_false_eq_true, not_true_eq_false, true_and, and_true, and_self]
  refine on_new (Sh := DSh (c0 1048576)) [.int .i64 1048576] (fun g => .tuple #[gptr g, .int .i64 0]) (fun g => .tup [.c (.v (gptr g)), .c (.v (.int .i64 0))]) Try.call47 (dnew_c 1048576 (by omega)) rfl (fun _ => rfl) (fun _ _ => rfl) rfl fun g fp => ?_
  obtain ⟨q, hq, hq2, hq3⟩ : ∃ q : Nat, min (s.size : Int) 300 = (q : Int) ∧ q ≤ 300 ∧ q ≤ s.size := ⟨min s.size 300, by omega, by omega, by omega⟩
  have c5 : (0 : Int) ≤ q ∧ (q : Int) ≤ s.size := by omega
  have c6 : (0 : Int) ≤ 0 ∧ (0 : Int) ≤ q := by omega
  obtain ⟨u, hu⟩ : ∃ u, s.extract 0 q = u := ⟨_, rfl⟩
  have hus : u.size ≤ 300 := by rw [← hu, ByteArray.size_extract]; omega
  have hE : appE (c0 1048576) u = 0 := by unfold appE; rw [if_neg]; rw [c0_all]; show ¬ ((0 + u.size : Nat) : Int) > 1048576; omega
  have hD : appD (c0 1048576) u = c1 1048576 u := by unfold appD; rw [if_neg]; rfl; rw [c0_all]; show ¬ ((0 + u.size : Nat) : Int) > 1048576; omega
  have hS1 : (c1 1048576 u).small := ⟨by rw [c1_all]; omega, by show 1 ≤ _; omega⟩
  obtain ⟨z, hz⟩ : ∃ z, (bif near then size.tmod 350 else size) = z := ⟨_, rfl⟩
  cases near
  all_goals
    simp only [cond_true, cond_false] at hz
    simp only [go_sem, ↓reduceIte, Nat.reduceEqDiff, Nat.reduceLT, Nat.reduceLeDiff, Nat.reduceAdd, Nat.reduceMul, Nat.reduceSub, Nat.reduceDiv, Nat.reduceMod, Int.reduceToNat, Int.reduceLT, Int.reduceLE, Int.reduceAdd, Int.reduceSub, Int.reduceMul, Int.reduceEq, Int.reduceNeg, reduceCtorEq, or_false, false_or, decide_true, decide_false, Int.cast_ofNat_Int, Nat.zero_add, Nat.add_zero, Int.toNat_natCast, Option.isNone_none, Option.isNone_some, Bool.not_true, Bool.not_false, Bool.xor_true, Bool.xor_false, Bool.true_xor, Bool.false_xor, decide_true, decide_false, Bool.and_true, Bool.true_and, Bool.and_false, Bool.false_and, eq_self, ne_eq, not_false_eq_true, not_true_eq_false, true_and, and_true, and_self, hq, c5, c6, hu, hz]
    refine on_call 0 (Sh := DSh (c0 1048576)) (Sh' := DSh (c1 1048576 u)) (v := .int .i64 0) [gptr g, .string u] (.c (.v (.int .i64 0))) Try.call48 (fun w h => by have := dappend_c g (c0 1048576) u (c0_small _) (by omega) _ w h; rw [hE, hD] at this; exact this) rfl rfl (fun _ => rfl) (fun _ => rfl) rfl fun fp1 => ?_
    simp only [go_sem, ↓reduceIte, Nat.reduceEqDiff, Nat.reduceLT, Nat.reduceLeDiff, Nat.reduceAdd, Nat.reduceMul, Nat.reduceSub, Nat.reduceDiv, Nat.reduceMod, Int.reduceToNat, Int.reduceLT, Int.reduceLE, Int.reduceAdd, Int.reduceSub, Int.reduceMul, Int.reduceEq, Int.reduceNeg, reduceCtorEq, or_false, false_or, decide_true, decide_false, Int.cast_ofNat_Int, Nat.zero_add, Nat.add_zero, Int.toNat_natCast, Option.isNone_none, Option.isNone_some, Bool.not_true, Bool.not_false, Bool.xor_true, Bool.xor_false, Bool.true_xor, Bool.false_xor, decide_true, decide_false, Bool.and_true, Bool.true_and, Bool.and_false, Bool.false_and, eq_self, ne_eq, not_false_eq_true, not_true_eq_false, true_and, and_true, and_self, hz]
    obtain ⟨b1, b2, d1, d2⟩ : ∃ b1 b2, decide (z < 0) = b1 ∧ decide ((u.size : Int) < z) = b2 := ⟨_, _, rfl, rfl⟩
    have k1 : z < 0 ∨ ((c1 1048576 u).all.size : Int) < z ↔ (b1 || b2) = true := by rw [c1_all, ← d1, ← d2]; simp
    refine on_call 0 (Sh := DSh (c1 1048576 u)) (Sh' := DSh (cutD (c1 1048576 u) z)) (v := .int .i64 (cutE (c1 1048576 u) z)) [gptr g, .int .i64 z] (.c (.v (.int .i64 (cutE (c1 1048576 u) z)))) Try.call53 (fun w h => dcut_c g (c1 1048576 u) z hS1 _ w h) rfl rfl (fun _ => rfl) (fun _ => rfl) rfl fun fp2 => ?_
    cases b1 <;> cases b2
    all_goals
      first
        | (have k2 : z < 0 ∨ ((c1 1048576 u).all.size : Int) < z := by rw [k1]; rfl
           unfold cutE cutD
           rw [if_pos k2, if_pos k2]
           simp only [go_sem, ↓reduceIte, Nat.reduceEqDiff, Nat.reduceLT, Nat.reduceLeDiff, Nat.reduceAdd, Nat.reduceMul, Nat.reduceSub, Nat.reduceDiv, Nat.reduceMod, Int.reduceToNat, Int.reduceLT, Int.reduceLE, Int.reduceAdd, Int.reduceSub, Int.reduceMul, Int.reduceEq, Int.reduceNeg, reduceCtorEq, or_false, false_or, decide_true, decide_false, Int.cast_ofNat_Int, Nat.zero_add, Nat.add_zero, Int.toNat_natCast, Option.isNone_none, Option.isNone_some, Bool.not_true, Bool.not_false, Bool.xor_true, Bool.xor_false, Bool.true_xor, Bool.false_xor, decide_true, decide_false, Bool.and_true, Bool.true_and, Bool.and_false, Bool.false_and, eq_self, ne_eq, not_false_eq_true, not_true_eq_false, true_and, and_true, and_self, d1, d2]
           refine on_callk 0 (Sh := DSh (c1 1048576 u)) (v := .string u) [gptr g] (.c (.v (.string u))) Try.call50 (fun w h => by have := dbytes_c g _ hS1 _ w h; rw [c1_all] at this; exact this) rfl rfl (fun _ => rfl) (fun _ => rfl) rfl ?_
           simp only [go_sem, ↓reduceIte, Nat.reduceEqDiff, Nat.reduceLT, Nat.reduceLeDiff, Nat.reduceAdd, Nat.reduceMul, Nat.reduceSub, Nat.reduceDiv, Nat.reduceMod, Int.reduceToNat, Int.reduceLT, Int.reduceLE, Int.reduceAdd, Int.reduceSub, Int.reduceMul, Int.reduceEq, Int.reduceNeg, reduceCtorEq, or_false, false_or, decide_true, decide_false, Int.cast_ofNat_Int, Nat.zero_add, Nat.add_zero, Int.toNat_natCast, Option.isNone_none, Option.isNone_some, Bool.not_true, Bool.not_false, Bool.xor_true, Bool.xor_false, Bool.true_xor, Bool.false_xor, decide_true, decide_false, Bool.and_true, Bool.true_and, Bool.and_false, Bool.false_and, eq_self, ne_eq, not_false_eq_true, not_true_eq_false, true_and, and_true, and_self]
           refine on_callk 0 (Sh := DSh (c1 1048576 u)) (v := .int .i64 0) [gptr g] (.c (.v (.int .i64 0))) Try.call51 (fun w h => dsynced_c g _ _ w h) rfl rfl (fun _ => rfl) (fun _ => rfl) rfl ?_
           simp only [go_sem, ↓reduceIte, Nat.reduceEqDiff, Nat.reduceLT, Nat.reduceLeDiff, Nat.reduceAdd, Nat.reduceMul, Nat.reduceSub, Nat.reduceDiv, Nat.reduceMod, Int.reduceToNat, Int.reduceLT, Int.reduceLE, Int.reduceAdd, Int.reduceSub, Int.reduceMul, Int.reduceEq, Int.reduceNeg, reduceCtorEq, or_false, false_or, decide_true, decide_false, Int.cast_ofNat_Int, Nat.zero_add, Nat.add_zero, Int.toNat_natCast, Option.isNone_none, Option.isNone_some, Bool.not_true, Bool.not_false, Bool.xor_true, Bool.xor_false, Bool.true_xor, Bool.false_xor, decide_true, decide_false, Bool.and_true, Bool.true_and, Bool.and_false, Bool.false_and, eq_self, ne_eq, not_false_eq_true, not_true_eq_false, true_and, and_true, and_self]
           exact fun ρ a w hs _ => ⟨rfl, hs.grown⟩)
        | (have k2 : ¬ (z < 0 ∨ ((c1 1048576 u).all.size : Int) < z) := by rw [k1]; simp
           have k3 : (0 : Int) ≤ z ∧ z ≤ u.size := by rw [c1_all] at k2; omega
           have k4 : (0 : Int) ≤ 0 ∧ 0 ≤ z := by omega
           unfold cutE cutD
           rw [if_neg k2, if_neg k2, c1_all]
           obtain ⟨v, hv⟩ : ∃ v, u.extract 0 z.toNat = v := ⟨_, rfl⟩
           have hvs : (v.size : Int) = z := by rw [← hv, ByteArray.size_extract]; omega
           have hS2 : (setD (c1 1048576 u) v).small := ⟨by rw [setD_all]; omega, by show 0 ≤ _; omega⟩
           rw [hv]
           simp only [go_sem, ↓reduceIte, Nat.reduceEqDiff, Nat.reduceLT, Nat.reduceLeDiff, Nat.reduceAdd, Nat.reduceMul, Nat.reduceSub, Nat.reduceDiv, Nat.reduceMod, Int.reduceToNat, Int.reduceLT, Int.reduceLE, Int.reduceAdd, Int.reduceSub, Int.reduceMul, Int.reduceEq, Int.reduceNeg, reduceCtorEq, or_false, false_or, decide_true, decide_false, Int.cast_ofNat_Int, Nat.zero_add, Nat.add_zero, Int.toNat_natCast, Option.isNone_none, Option.isNone_some, Bool.not_true, Bool.not_false, Bool.xor_true, Bool.xor_false, Bool.true_xor, Bool.false_xor, decide_true, decide_false, Bool.and_true, Bool.true_and, Bool.and_false, Bool.false_and, eq_self, ne_eq, not_false_eq_true, not_true_eq_false, true_and, and_true, and_self, d1, d2]
           refine sdraw0 [.t 0, .t 1, .t 2, .t 3, .t 4, .t 5, .t 6, .t 8, .t 9, .t 10, .r 7, .t 11, .t 12, .t 13, .t 14, .t 16, .r 15, .t 17, .t 18, .t 19] 20 rfl (by kernel_rfl) ?_
           simp only [go_sem, ↓reduceIte, Nat.reduceEqDiff, Nat.reduceLT, Nat.reduceLeDiff, Nat.reduceAdd, Nat.reduceMul, Nat.reduceSub, Nat.reduceDiv, Nat.reduceMod, Int.reduceToNat, Int.reduceLT, Int.reduceLE, Int.reduceAdd, Int.reduceSub, Int.reduceMul, Int.reduceEq, Int.reduceNeg, reduceCtorEq, or_false, false_or, decide_true, decide_false, Int.cast_ofNat_Int, Nat.zero_add, Nat.add_zero, Int.toNat_natCast, Option.isNone_none, Option.isNone_some, Bool.not_true, Bool.not_false, Bool.xor_true, Bool.xor_false, Bool.true_xor, Bool.false_xor, decide_true, decide_false, Bool.and_true, Bool.true_and, Bool.and_false, Bool.false_and, eq_self, ne_eq, not_false_eq_true, not_true_eq_false, true_and, and_true, and_self, k3, k4, hv]
           refine on_callk 0 (Sh := DSh (setD (c1 1048576 u) v)) (v := .string v) [gptr g] (.c (.v (.string v))) Try.call50 (fun w h => by have := dbytes_c g _ hS2 _ w h; rw [setD_all] at this; exact this) rfl rfl (fun _ => rfl) (fun _ => rfl) rfl ?_
           simp only [go_sem, ↓reduceIte, Nat.reduceEqDiff, Nat.reduceLT, Nat.reduceLeDiff, Nat.reduceAdd, Nat.reduceMul, Nat.reduceSub, Nat.reduceDiv, Nat.reduceMod, Int.reduceToNat, Int.reduceLT, Int.reduceLE, Int.reduceAdd, Int.reduceSub, Int.reduceMul, Int.reduceEq, Int.reduceNeg, reduceCtorEq, or_false, false_or, decide_true, decide_false, Int.cast_ofNat_Int, Nat.zero_add, Nat.add_zero, Int.toNat_natCast, Option.isNone_none, Option.isNone_some, Bool.not_true, Bool.not_false, Bool.xor_true, Bool.xor_false, Bool.true_xor, Bool.false_xor, decide_true, decide_false, Bool.and_true, Bool.true_and, Bool.and_false, Bool.false_and, eq_self, ne_eq, not_false_eq_true, not_true_eq_false, true_and, and_true, and_self, k3, k4, hv]
           refine on_callk 0 (Sh := DSh (setD (c1 1048576 u) v)) (v := .int .i64 z) [gptr g] (.c (.v (.int .i64 z))) Try.call51 (fun w h => by have := dsynced_c g _ _ w h; rw [show (((setD (c1 1048576 u) v).fast.size : Nat) : Int) = z from hvs] at this; exact this) rfl rfl (fun _ => rfl) (fun _ => rfl) rfl ?_
           simp only [go_sem, ↓reduceIte, Nat.reduceEqDiff, Nat.reduceLT, Nat.reduceLeDiff, Nat.reduceAdd, Nat.reduceMul, Nat.reduceSub, Nat.reduceDiv, Nat.reduceMod, Int.reduceToNat, Int.reduceLT, Int.reduceLE, Int.reduceAdd, Int.reduceSub, Int.reduceMul, Int.reduceEq, Int.reduceNeg, reduceCtorEq, or_false, false_or, decide_true, decide_false, Int.cast_ofNat_Int, Nat.zero_add, Nat.add_zero, Int.toNat_natCast, Option.isNone_none, Option.isNone_some, Bool.not_true, Bool.not_false, Bool.xor_true, Bool.xor_false, Bool.true_xor, Bool.false_xor, decide_true, decide_false, Bool.and_true, Bool.true_and, Bool.and_false, Bool.false_and, eq_self, ne_eq, not_false_eq_true, not_true_eq_false, true_and, and_true, and_self]
           exact fun ρ a w hs _ => ⟨rfl, hs.grown⟩)
end Go.Proofs.Ytfokingbglkmjaa
