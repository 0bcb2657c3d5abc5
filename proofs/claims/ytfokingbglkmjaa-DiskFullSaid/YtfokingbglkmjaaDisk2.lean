/-
  The disk: Append, Synced, Sync, Cut, New. Conditions: none.
-/
import Derived.Test.YtfokingbglkmjaaDisk
namespace Go.Proofs.Ytfokingbglkmjaa
open Go.RowKit Go.Sx
set_option linter.unusedVariables false
set_option linter.unusedSimpArgs false
set_option linter.unusedSectionVars false

theorem join0 : ∀ w : World, Calls Try.prog 95 #[.slice none 0 0, .string ⟨#[]⟩] w fun e w' => e = .returned (.string ⟨#[]⟩) ∧ Below w.heap.size w w' := fun w => (Try.strings_Join_none none 0 _ w).mono fun e w' ⟨h1, h2⟩ => ⟨h1, h2 ▸ Below.refl _ _⟩
theorem append_e (a : ByteArray) : a ++ (⟨#[]⟩ : ByteArray) = a := by
  apply ByteArray.ext; simp
def appE (d : Dk) (s : ByteArray) : Int := if (d.all.size + s.size : Nat) > d.room then 4 else 0
def appD (d : Dk) (s : ByteArray) : Dk := if (d.all.size + s.size : Nat) > d.room then d else { d with late := d.late ++ [s] }
set_option maxRecDepth 100000 in
theorem dappend_c (g : Nat) (d : Dk) (s : ByteArray) (hs : d.small) (hsz : s.size ≤ 9223372036854775807 - 1073741824) (fp : List Nat) (w : World) (h : On g (DSh d) fp w) : Calls Try.prog 48 #[gptr g, .string s] w (Turn g fp (.int .i64 (appE d s)) (DSh (appD d s)) w) := by
  refine on_calls h 28 _ Try.func48 rfl Try.ntmps48 Try.results48 [.c (.p 0 0 0), .c (.v (.string s))] (by simp) (fun ρ' h1 h2 => by simp [SV.denL, SV.den, CV.den, gptr, h1, h2]) (fun ρ nx hp hsh hg hb => ?_)
  have hc := Dk.cat_small hs
  have hs1 := hs.1
  obtain ⟨full, hfull⟩ : ∃ b, decide (d.room < ((d.all.size : Int) + s.size)) = b := ⟨_, rfl⟩
  have w1 : IntKind.i64.wrap ((d.all.size : Int) + s.size) = (d.all.size : Int) + s.size := wrap_i64 _ (by omega) (by omega)
  have h9 : d.fast.size + (cat d.late).size ≤ 9223372036854775807 := by omega
  have hsum : d.fast ++ cat d.late = d.all := rfl
  rcases hsh with ⟨hn, rfl, rfl⟩ | ⟨c, ⟨hl, hp0⟩, rfl, rfl⟩
  · have h8 : d.fast.size + (#[] : Array UInt8).size ≤ 9223372036854775807 := by show d.fast.size + 0 ≤ _; omega
    have hall : d.fast ++ (⟨#[]⟩ : ByteArray) = d.all := by rw [← hsum, hn]; rfl
    simp only [go_sem, ↓reduceIte, Nat.reduceEqDiff, Nat.reduceLT, Nat.reduceLeDiff, Nat.reduceAdd, Nat.reduceMul, Nat.reduceSub, Nat.reduceDiv, Nat.reduceMod, Int.reduceToNat, Int.reduceLT, Int.reduceLE, Int.reduceAdd, Int.reduceSub, Int.reduceMul, Int.reduceEq, Int.reduceNeg, reduceCtorEq, or_false, false_or, decide_true, decide_false, Int.cast_ofNat_Int, Nat.zero_add, Nat.add_zero, Int.toNat_natCast, Option.isNone_none, Option.isNone_some, Bool.not_true, Bool.not_false, Bool.xor_true, Bool.xor_false, Bool.true_xor, Bool.false_xor, decide_true, decide_false, Bool.and_true, Bool.true_and, Bool.and_false, Bool.false_and, eq_self, ne_eq, not_false_eq_true, not_true_eq_false, true_and, and_true, and_self]
    refine sdraw0 [.t 0, .t 3, .t 4, .t 6, .t 7, .t 8, .t 9, .r 1, .t 2, .t 5, .t 10] 11 rfl (by kernel_rfl) ?_
    simp only [go_sem, ↓reduceIte, Nat.reduceEqDiff, Nat.reduceLT, Nat.reduceLeDiff, Nat.reduceAdd, Nat.reduceMul, Nat.reduceSub, Nat.reduceDiv, Nat.reduceMod, Int.reduceToNat, Int.reduceLT, Int.reduceLE, Int.reduceAdd, Int.reduceSub, Int.reduceMul, Int.reduceEq, Int.reduceNeg, reduceCtorEq, or_false, false_or, decide_true, decide_false, Int.cast_ofNat_Int, Nat.zero_add, Nat.add_zero, Int.toNat_natCast, Option.isNone_none, Option.isNone_some, Bool.not_true, Bool.not_false, Bool.xor_true, Bool.xor_false, Bool.true_xor, Bool.false_xor, decide_true, decide_false, Bool.and_true, Bool.true_and, Bool.and_false, Bool.false_and, eq_self, ne_eq, not_false_eq_true, not_true_eq_false, true_and, and_true, and_self]
    refine scall_in 15 _ Try.func50 rfl Try.ntmps50 Try.results50 Try.call50 ?_
    simp only [go_sem, ↓reduceIte, Nat.reduceEqDiff, Nat.reduceLT, Nat.reduceLeDiff, Nat.reduceAdd, Nat.reduceMul, Nat.reduceSub, Nat.reduceDiv, Nat.reduceMod, Int.reduceToNat, Int.reduceLT, Int.reduceLE, Int.reduceAdd, Int.reduceSub, Int.reduceMul, Int.reduceEq, Int.reduceNeg, reduceCtorEq, or_false, false_or, decide_true, decide_false, Int.cast_ofNat_Int, Nat.zero_add, Nat.add_zero, Int.toNat_natCast, Option.isNone_none, Option.isNone_some, Bool.not_true, Bool.not_false, Bool.xor_true, Bool.xor_false, Bool.true_xor, Bool.false_xor, decide_true, decide_false, Bool.and_true, Bool.true_and, Bool.and_false, Bool.false_and, eq_self, ne_eq, not_false_eq_true, not_true_eq_false, true_and, and_true, and_self]
    refine sdraw0 [.t 0, .t 1, .t 2, .t 3, .t 4, .t 5, .t 6, .t 7, .t 8, .t 9, .r 10, .t 11, .t 12] 13 rfl (by kernel_rfl) ?_
    simp only [go_sem, ↓reduceIte, Nat.reduceEqDiff, Nat.reduceLT, Nat.reduceLeDiff, Nat.reduceAdd, Nat.reduceMul, Nat.reduceSub, Nat.reduceDiv, Nat.reduceMod, Int.reduceToNat, Int.reduceLT, Int.reduceLE, Int.reduceAdd, Int.reduceSub, Int.reduceMul, Int.reduceEq, Int.reduceNeg, reduceCtorEq, or_false, false_or, decide_true, decide_false, Int.cast_ofNat_Int, Nat.zero_add, Nat.add_zero, Int.toNat_natCast, Option.isNone_none, Option.isNone_some, Bool.not_true, Bool.not_false, Bool.xor_true, Bool.xor_false, Bool.true_xor, Bool.false_xor, decide_true, decide_false, Bool.and_true, Bool.true_and, Bool.and_false, Bool.false_and, eq_self, ne_eq, not_false_eq_true, not_true_eq_false, true_and, and_true, and_self]
    refine scall_pure [.slice none 0 0, .string ⟨#[]⟩] (.c (.v (.string ⟨#[]⟩))) (.string ⟨#[]⟩) Try.call95 join0 rfl (fun _ => rfl) (fun _ => rfl) ?_
    simp only [go_sem, ↓reduceIte, Nat.reduceEqDiff, Nat.reduceLT, Nat.reduceLeDiff, Nat.reduceAdd, Nat.reduceMul, Nat.reduceSub, Nat.reduceDiv, Nat.reduceMod, Int.reduceToNat, Int.reduceLT, Int.reduceLE, Int.reduceAdd, Int.reduceSub, Int.reduceMul, Int.reduceEq, Int.reduceNeg, reduceCtorEq, or_false, false_or, decide_true, decide_false, Int.cast_ofNat_Int, Nat.zero_add, Nat.add_zero, Int.toNat_natCast, Option.isNone_none, Option.isNone_some, Bool.not_true, Bool.not_false, Bool.xor_true, Bool.xor_false, Bool.true_xor, Bool.false_xor, decide_true, decide_false, Bool.and_true, Bool.true_and, Bool.and_false, Bool.false_and, eq_self, ne_eq, not_false_eq_true, not_true_eq_false, true_and, and_true, and_self, h8, hall, w1, hfull]
    cases full
    · have hD : appD d s = { d with late := d.late ++ [s] } := by unfold appD; rw [if_neg (by simp at hfull; omega)]
      have hE : appE d s = 0 := by unfold appE; rw [if_neg (by simp at hfull; omega)]
      rw [hD, hE]
      simp only [go_sem, ↓reduceIte, Nat.reduceEqDiff, Nat.reduceLT, Nat.reduceLeDiff, Nat.reduceAdd, Nat.reduceMul, Nat.reduceSub, Nat.reduceDiv, Nat.reduceMod, Int.reduceToNat, Int.reduceLT, Int.reduceLE, Int.reduceAdd, Int.reduceSub, Int.reduceMul, Int.reduceEq, Int.reduceNeg, reduceCtorEq, or_false, false_or, decide_true, decide_false, Int.cast_ofNat_Int, Nat.zero_add, Nat.add_zero, Int.toNat_natCast, Option.isNone_none, Option.isNone_some, Bool.not_true, Bool.not_false, Bool.xor_true, Bool.xor_false, Bool.true_xor, Bool.false_xor, decide_true, decide_false, Bool.and_true, Bool.true_and, Bool.and_false, Bool.false_and, eq_self, ne_eq, not_false_eq_true, not_true_eq_false, true_and, and_true, and_self]
      refine sappend_nil rfl rfl tkind89 tsz9 tby9 tz9 rfl ⟨⟨rfl, by decide, by decide⟩, by decide, by decide, by decide⟩ ?_
      refine ⟨by show (24 : Nat) < 28; omega, fun c' hc' => ?_⟩
      simp only [go_sem, ↓reduceIte, Nat.reduceEqDiff, Nat.reduceLT, Nat.reduceLeDiff, Nat.reduceAdd, Nat.reduceMul, Nat.reduceSub, Nat.reduceDiv, Nat.reduceMod, Int.reduceToNat, Int.reduceLT, Int.reduceLE, Int.reduceAdd, Int.reduceSub, Int.reduceMul, Int.reduceEq, Int.reduceNeg, reduceCtorEq, or_false, false_or, decide_true, decide_false, Int.cast_ofNat_Int, Nat.zero_add, Nat.add_zero, Int.toNat_natCast, Option.isNone_none, Option.isNone_some, Bool.not_true, Bool.not_false, Bool.xor_true, Bool.xor_false, Bool.true_xor, Bool.false_xor, decide_true, decide_false, Bool.and_true, Bool.true_and, Bool.and_false, Bool.false_and, eq_self, ne_eq, not_false_eq_true, not_true_eq_false, true_and, and_true, and_self]
      refine fun ρ' a w' hs' hag => ?_
      obtain ⟨fp', hon, hch⟩ := dk_end1 (d := { d with late := d.late ++ [s] }) rfl rfl hs' ((congrArg Nm.blk (hag 0 Nat.zero_lt_one)).trans hg) ((congrArg Nm.base (hag 0 Nat.zero_lt_one)).trans hb) Nat.zero_lt_one 2 c' rfl (by omega) rfl (by simp [hn]) (fun j hj => by
        have : j = 0 := by omega
        subst this; simp [dkLate, hn]) ⟨hc', by omega⟩
      exact ⟨fp', rfl, hon, hch⟩
    · have hD : appD d s = d := by unfold appD; rw [if_pos (by simp at hfull; omega)]
      have hE : appE d s = 4 := by unfold appE; rw [if_pos (by simp at hfull; omega)]
      rw [hD, hE]
      simp only [go_sem, ↓reduceIte, Nat.reduceEqDiff, Nat.reduceLT, Nat.reduceLeDiff, Nat.reduceAdd, Nat.reduceMul, Nat.reduceSub, Nat.reduceDiv, Nat.reduceMod, Int.reduceToNat, Int.reduceLT, Int.reduceLE, Int.reduceAdd, Int.reduceSub, Int.reduceMul, Int.reduceEq, Int.reduceNeg, reduceCtorEq, or_false, false_or, decide_true, decide_false, Int.cast_ofNat_Int, Nat.zero_add, Nat.add_zero, Int.toNat_natCast, Option.isNone_none, Option.isNone_some, Bool.not_true, Bool.not_false, Bool.xor_true, Bool.xor_false, Bool.true_xor, Bool.false_xor, decide_true, decide_false, Bool.and_true, Bool.true_and, Bool.and_false, Bool.false_and, eq_self, ne_eq, not_false_eq_true, not_true_eq_false, true_and, and_true, and_self]
      refine fun ρ' a w' hs' hag => ?_
      obtain ⟨fp', hon, hch⟩ := dk_end0 (d := d) rfl rfl hs' ((congrArg Nm.blk (hag 0 Nat.zero_lt_one)).trans hg) ((congrArg Nm.base (hag 0 Nat.zero_lt_one)).trans hb) rfl hn
      exact ⟨fp', rfl, hon, hch⟩
  · simp only [go_sem, ↓reduceIte, Nat.reduceEqDiff, Nat.reduceLT, Nat.reduceLeDiff, Nat.reduceAdd, Nat.reduceMul, Nat.reduceSub, Nat.reduceDiv, Nat.reduceMod, Int.reduceToNat, Int.reduceLT, Int.reduceLE, Int.reduceAdd, Int.reduceSub, Int.reduceMul, Int.reduceEq, Int.reduceNeg, reduceCtorEq, or_false, false_or, decide_true, decide_false, Int.cast_ofNat_Int, Nat.zero_add, Nat.add_zero, Int.toNat_natCast, Option.isNone_none, Option.isNone_some, Bool.not_true, Bool.not_false, Bool.xor_true, Bool.xor_false, Bool.true_xor, Bool.false_xor, decide_true, decide_false, Bool.and_true, Bool.true_and, Bool.and_false, Bool.false_and, eq_self, ne_eq, not_false_eq_true, not_true_eq_false, true_and, and_true, and_self]
    refine sdraw0 [.t 0, .t 3, .t 4, .t 6, .t 7, .t 8, .t 9, .r 1, .t 2, .t 5, .t 10] 11 rfl (by kernel_rfl) ?_
    simp only [go_sem, ↓reduceIte, Nat.reduceEqDiff, Nat.reduceLT, Nat.reduceLeDiff, Nat.reduceAdd, Nat.reduceMul, Nat.reduceSub, Nat.reduceDiv, Nat.reduceMod, Int.reduceToNat, Int.reduceLT, Int.reduceLE, Int.reduceAdd, Int.reduceSub, Int.reduceMul, Int.reduceEq, Int.reduceNeg, reduceCtorEq, or_false, false_or, decide_true, decide_false, Int.cast_ofNat_Int, Nat.zero_add, Nat.add_zero, Int.toNat_natCast, Option.isNone_none, Option.isNone_some, Bool.not_true, Bool.not_false, Bool.xor_true, Bool.xor_false, Bool.true_xor, Bool.false_xor, decide_true, decide_false, Bool.and_true, Bool.true_and, Bool.and_false, Bool.false_and, eq_self, ne_eq, not_false_eq_true, not_true_eq_false, true_and, and_true, and_self]
    refine scall_in 15 _ Try.func50 rfl Try.ntmps50 Try.results50 Try.call50 ?_
    simp only [go_sem, ↓reduceIte, Nat.reduceEqDiff, Nat.reduceLT, Nat.reduceLeDiff, Nat.reduceAdd, Nat.reduceMul, Nat.reduceSub, Nat.reduceDiv, Nat.reduceMod, Int.reduceToNat, Int.reduceLT, Int.reduceLE, Int.reduceAdd, Int.reduceSub, Int.reduceMul, Int.reduceEq, Int.reduceNeg, reduceCtorEq, or_false, false_or, decide_true, decide_false, Int.cast_ofNat_Int, Nat.zero_add, Nat.add_zero, Int.toNat_natCast, Option.isNone_none, Option.isNone_some, Bool.not_true, Bool.not_false, Bool.xor_true, Bool.xor_false, Bool.true_xor, Bool.false_xor, decide_true, decide_false, Bool.and_true, Bool.true_and, Bool.and_false, Bool.false_and, eq_self, ne_eq, not_false_eq_true, not_true_eq_false, true_and, and_true, and_self]
    refine sdraw0 [.t 0, .t 1, .t 2, .t 3, .t 4, .t 5, .t 6, .t 7, .t 8, .t 9, .r 10, .t 11, .t 12] 13 rfl (by kernel_rfl) ?_
    simp only [go_sem, ↓reduceIte, Nat.reduceEqDiff, Nat.reduceLT, Nat.reduceLeDiff, Nat.reduceAdd, Nat.reduceMul, Nat.reduceSub, Nat.reduceDiv, Nat.reduceMod, Int.reduceToNat, Int.reduceLT, Int.reduceLE, Int.reduceAdd, Int.reduceSub, Int.reduceMul, Int.reduceEq, Int.reduceNeg, reduceCtorEq, or_false, false_or, decide_true, decide_false, Int.cast_ofNat_Int, Nat.zero_add, Nat.add_zero, Int.toNat_natCast, Option.isNone_none, Option.isNone_some, Bool.not_true, Bool.not_false, Bool.xor_true, Bool.xor_false, Bool.true_xor, Bool.false_xor, decide_true, decide_false, Bool.and_true, Bool.true_and, Bool.and_false, Bool.false_and, eq_self, ne_eq, not_false_eq_true, not_true_eq_false, true_and, and_true, and_self]
    refine scall_keep (.c (.v (.string (cat d.late)))) Try.call95 (fun ρ a w' hs' => ?_) rfl (fun _ _ _ => rfl) ?_
    · have hh := hs'.now.hp _ _ (mem_hget (n := 1) rfl)
      have hlt := lt_of_heap hh.2.2.1.choose_spec.1
      have := dk_join hs hl hh hlt
      simpa [SV.denL, SV.den, CV.den, hh.1] using this
    simp only [go_sem, ↓reduceIte, Nat.reduceEqDiff, Nat.reduceLT, Nat.reduceLeDiff, Nat.reduceAdd, Nat.reduceMul, Nat.reduceSub, Nat.reduceDiv, Nat.reduceMod, Int.reduceToNat, Int.reduceLT, Int.reduceLE, Int.reduceAdd, Int.reduceSub, Int.reduceMul, Int.reduceEq, Int.reduceNeg, reduceCtorEq, or_false, false_or, decide_true, decide_false, Int.cast_ofNat_Int, Nat.zero_add, Nat.add_zero, Int.toNat_natCast, Option.isNone_none, Option.isNone_some, Bool.not_true, Bool.not_false, Bool.xor_true, Bool.xor_false, Bool.true_xor, Bool.false_xor, decide_true, decide_false, Bool.and_true, Bool.true_and, Bool.and_false, Bool.false_and, eq_self, ne_eq, not_false_eq_true, not_true_eq_false, true_and, and_true, and_self, h9, hsum, w1, hfull]
    cases full
    · have hD : appD d s = { d with late := d.late ++ [s] } := by unfold appD; rw [if_neg (by simp at hfull; omega)]
      have hE : appE d s = 0 := by unfold appE; rw [if_neg (by simp at hfull; omega)]
      rw [hD, hE]
      have hl2 := hs.2
      simp only [go_sem, ↓reduceIte, Nat.reduceEqDiff, Nat.reduceLT, Nat.reduceLeDiff, Nat.reduceAdd, Nat.reduceMul, Nat.reduceSub, Nat.reduceDiv, Nat.reduceMod, Int.reduceToNat, Int.reduceLT, Int.reduceLE, Int.reduceAdd, Int.reduceSub, Int.reduceMul, Int.reduceEq, Int.reduceNeg, reduceCtorEq, or_false, false_or, decide_true, decide_false, Int.cast_ofNat_Int, Nat.zero_add, Nat.add_zero, Int.toNat_natCast, Option.isNone_none, Option.isNone_some, Bool.not_true, Bool.not_false, Bool.xor_true, Bool.xor_false, Bool.true_xor, Bool.false_xor, decide_true, decide_false, Bool.and_true, Bool.true_and, Bool.and_false, Bool.false_and, eq_self, ne_eq, not_false_eq_true, not_true_eq_false, true_and, and_true, and_self]
      refine sappend rfl rfl tkind89 tsz9 tby9 tz9 rfl rfl ⟨⟨rfl, by decide, by decide, Nat.le_refl _⟩, by decide, by omega, by omega⟩ (fun i hi => by
        have : i = 0 := by omega
        subst this; rfl) ⟨by show (24 : Nat) < 28; omega, fun c' hc' => ?_⟩
      simp only [go_sem, ↓reduceIte, Nat.reduceEqDiff, Nat.reduceLT, Nat.reduceLeDiff, Nat.reduceAdd, Nat.reduceMul, Nat.reduceSub, Nat.reduceDiv, Nat.reduceMod, Int.reduceToNat, Int.reduceLT, Int.reduceLE, Int.reduceAdd, Int.reduceSub, Int.reduceMul, Int.reduceEq, Int.reduceNeg, reduceCtorEq, or_false, false_or, decide_true, decide_false, Int.cast_ofNat_Int, Nat.zero_add, Nat.add_zero, Int.toNat_natCast, Option.isNone_none, Option.isNone_some, Bool.not_true, Bool.not_false, Bool.xor_true, Bool.xor_false, Bool.true_xor, Bool.false_xor, decide_true, decide_false, Bool.and_true, Bool.true_and, Bool.and_false, Bool.false_and, eq_self, ne_eq, not_false_eq_true, not_true_eq_false, true_and, and_true, and_self]
      refine fun ρ' a w' hs' hag => ?_
      obtain ⟨fp', hon, hch⟩ := dk_end1 (d := { d with late := d.late ++ [s] }) rfl rfl hs' ((congrArg Nm.blk (hag 0 Nat.zero_lt_two)).trans hg) ((congrArg Nm.base (hag 0 Nat.zero_lt_two)).trans hb) Nat.zero_lt_two 3 c' rfl (by omega) rfl (by simp) (fun j hj => by
        by_cases hjl : j < d.late.length
        · simp [rapp, hjl, dkLate, List.getD_eq_getElem?_getD, List.getElem?_append_left]
        · have : j = d.late.length := by omega
          subst this; simp [rapp, dkLate, List.getD_eq_getElem?_getD]) ⟨hc', by omega⟩
      exact ⟨fp', rfl, hon, hch⟩
    · have hD : appD d s = d := by unfold appD; rw [if_pos (by simp at hfull; omega)]
      have hE : appE d s = 4 := by unfold appE; rw [if_pos (by simp at hfull; omega)]
      rw [hD, hE]
      simp only [go_sem, ↓reduceIte, Nat.reduceEqDiff, Nat.reduceLT, Nat.reduceLeDiff, Nat.reduceAdd, Nat.reduceMul, Nat.reduceSub, Nat.reduceDiv, Nat.reduceMod, Int.reduceToNat, Int.reduceLT, Int.reduceLE, Int.reduceAdd, Int.reduceSub, Int.reduceMul, Int.reduceEq, Int.reduceNeg, reduceCtorEq, or_false, false_or, decide_true, decide_false, Int.cast_ofNat_Int, Nat.zero_add, Nat.add_zero, Int.toNat_natCast, Option.isNone_none, Option.isNone_some, Bool.not_true, Bool.not_false, Bool.xor_true, Bool.xor_false, Bool.true_xor, Bool.false_xor, decide_true, decide_false, Bool.and_true, Bool.true_and, Bool.and_false, Bool.false_and, eq_self, ne_eq, not_false_eq_true, not_true_eq_false, true_and, and_true, and_self]
      refine fun ρ' a w' hs' hag => ?_
      obtain ⟨fp', hon, hch⟩ := dk_end1 (d := d) rfl rfl hs' ((congrArg Nm.blk (hag 0 Nat.zero_lt_two)).trans hg) ((congrArg Nm.base (hag 0 Nat.zero_lt_two)).trans hb) Nat.zero_lt_two 1 c rfl (by omega) rfl rfl (fun _ _ => rfl) ⟨hl, hp0⟩
      exact ⟨fp', rfl, hon, hch⟩

set_option maxRecDepth 100000 in
theorem dsynced_c (g : Nat) (d : Dk) (fp : List Nat) (w : World) (h : On g (DSh d) fp w) : Calls Try.prog 51 #[gptr g] w (TurnK g fp (.int .i64 d.fast.size) (DSh d) w) := by
  refine on_calls2 h 9 _ Try.func51 rfl Try.ntmps51 Try.results51 [.c (.p 0 0 0)] (by simp) (fun ρ' h1 h2 => by simp [SV.denL, SV.den, CV.den, gptr, h1, h2]) (fun ρ nx hp hsh hg hb hh => ?_)
  rcases hsh with ⟨hn, rfl, rfl⟩ | ⟨c, ⟨hl, hp0⟩, rfl, rfl⟩
  · simp only [go_sem, ↓reduceIte, Nat.reduceEqDiff, Nat.reduceLT, Nat.reduceLeDiff, Nat.reduceAdd, Nat.reduceMul, Nat.reduceSub, Nat.reduceDiv, Nat.reduceMod, Int.reduceToNat, Int.reduceLT, Int.reduceLE, Int.reduceAdd, Int.reduceSub, Int.reduceMul, Int.reduceEq, Int.reduceNeg, reduceCtorEq, or_false, false_or, decide_true, decide_false, Int.cast_ofNat_Int, Nat.zero_add, Nat.add_zero, Int.toNat_natCast, Option.isNone_none, Option.isNone_some, Bool.not_true, Bool.not_false, Bool.xor_true, Bool.xor_false, Bool.true_xor, Bool.false_xor, decide_true, decide_false, Bool.and_true, Bool.true_and, Bool.and_false, Bool.false_and, eq_self, ne_eq, not_false_eq_true, not_true_eq_false, true_and, and_true, and_self]
    refine fun ρ' a w' hs' hag => ?_
    exact ⟨rfl, on_same rfl rfl hs' hag hh rfl (.inl ⟨hn, rfl, rfl⟩) hg hb⟩
  · simp only [go_sem, ↓reduceIte, Nat.reduceEqDiff, Nat.reduceLT, Nat.reduceLeDiff, Nat.reduceAdd, Nat.reduceMul, Nat.reduceSub, Nat.reduceDiv, Nat.reduceMod, Int.reduceToNat, Int.reduceLT, Int.reduceLE, Int.reduceAdd, Int.reduceSub, Int.reduceMul, Int.reduceEq, Int.reduceNeg, reduceCtorEq, or_false, false_or, decide_true, decide_false, Int.cast_ofNat_Int, Nat.zero_add, Nat.add_zero, Int.toNat_natCast, Option.isNone_none, Option.isNone_some, Bool.not_true, Bool.not_false, Bool.xor_true, Bool.xor_false, Bool.true_xor, Bool.false_xor, decide_true, decide_false, Bool.and_true, Bool.true_and, Bool.and_false, Bool.false_and, eq_self, ne_eq, not_false_eq_true, not_true_eq_false, true_and, and_true, and_self]
    refine fun ρ' a w' hs' hag => ?_
    exact ⟨rfl, on_same rfl rfl hs' hag hh rfl (.inr ⟨c, ⟨hl, hp0⟩, rfl, rfl⟩) hg hb⟩

/-- Only some bytes are there, and synced. -/
def setD (d : Dk) (s : ByteArray) : Dk := ⟨s, [], d.room, false⟩
def syncD (d : Dk) : Dk := if d.held then d else setD d d.all
set_option maxRecDepth 100000 in
theorem dsync_c (g : Nat) (d : Dk) (hs : d.small) (fp : List Nat) (w : World) (h : On g (DSh d) fp w) : Calls Try.prog 49 #[gptr g] w (Turn g fp (.tuple #[]) (DSh (syncD d)) w) := by
  refine on_calls h 11 _ Try.func49 rfl Try.ntmps49 Try.results49 [.c (.p 0 0 0)] (by simp) (fun ρ' h1 h2 => by simp [SV.denL, SV.den, CV.den, gptr, h1, h2]) (fun ρ nx hp hsh hg hb => ?_)
  have hc := Dk.cat_small hs
  have h9 : d.fast.size + (cat d.late).size ≤ 9223372036854775807 := by omega
  have hsum : d.fast ++ cat d.late = d.all := rfl
  obtain ⟨b, hbh⟩ : ∃ b, d.held = b := ⟨_, rfl⟩
  rcases hsh with ⟨hn, rfl, rfl⟩ | ⟨c, ⟨hl, hp0⟩, rfl, rfl⟩
  · have h8 : d.fast.size + (#[] : Array UInt8).size ≤ 9223372036854775807 := by show d.fast.size + 0 ≤ _; omega
    have hall : d.fast ++ (⟨#[]⟩ : ByteArray) = d.all := by rw [← hsum, hn]; rfl
    cases b
    · simp only [go_sem, ↓reduceIte, Nat.reduceEqDiff, Nat.reduceLT, Nat.reduceLeDiff, Nat.reduceAdd, Nat.reduceMul, Nat.reduceSub, Nat.reduceDiv, Nat.reduceMod, Int.reduceToNat, Int.reduceLT, Int.reduceLE, Int.reduceAdd, Int.reduceSub, Int.reduceMul, Int.reduceEq, Int.reduceNeg, reduceCtorEq, or_false, false_or, decide_true, decide_false, Int.cast_ofNat_Int, Nat.zero_add, Nat.add_zero, Int.toNat_natCast, Option.isNone_none, Option.isNone_some, Bool.not_true, Bool.not_false, Bool.xor_true, Bool.xor_false, Bool.true_xor, Bool.false_xor, decide_true, decide_false, Bool.and_true, Bool.true_and, Bool.and_false, Bool.false_and, eq_self, ne_eq, not_false_eq_true, not_true_eq_false, true_and, and_true, and_self, hbh]
      refine scall_in 15 _ Try.func50 rfl Try.ntmps50 Try.results50 Try.call50 ?_
      simp only [go_sem, ↓reduceIte, Nat.reduceEqDiff, Nat.reduceLT, Nat.reduceLeDiff, Nat.reduceAdd, Nat.reduceMul, Nat.reduceSub, Nat.reduceDiv, Nat.reduceMod, Int.reduceToNat, Int.reduceLT, Int.reduceLE, Int.reduceAdd, Int.reduceSub, Int.reduceMul, Int.reduceEq, Int.reduceNeg, reduceCtorEq, or_false, false_or, decide_true, decide_false, Int.cast_ofNat_Int, Nat.zero_add, Nat.add_zero, Int.toNat_natCast, Option.isNone_none, Option.isNone_some, Bool.not_true, Bool.not_false, Bool.xor_true, Bool.xor_false, Bool.true_xor, Bool.false_xor, decide_true, decide_false, Bool.and_true, Bool.true_and, Bool.and_false, Bool.false_and, eq_self, ne_eq, not_false_eq_true, not_true_eq_false, true_and, and_true, and_self]
      refine sdraw0 [.t 0, .t 1, .t 2, .t 3, .t 4, .t 5, .t 6, .t 7, .t 8, .t 9, .r 10, .t 11, .t 12] 13 rfl (by kernel_rfl) ?_
      simp only [go_sem, ↓reduceIte, Nat.reduceEqDiff, Nat.reduceLT, Nat.reduceLeDiff, Nat.reduceAdd, Nat.reduceMul, Nat.reduceSub, Nat.reduceDiv, Nat.reduceMod, Int.reduceToNat, Int.reduceLT, Int.reduceLE, Int.reduceAdd, Int.reduceSub, Int.reduceMul, Int.reduceEq, Int.reduceNeg, reduceCtorEq, or_false, false_or, decide_true, decide_false, Int.cast_ofNat_Int, Nat.zero_add, Nat.add_zero, Int.toNat_natCast, Option.isNone_none, Option.isNone_some, Bool.not_true, Bool.not_false, Bool.xor_true, Bool.xor_false, Bool.true_xor, Bool.false_xor, decide_true, decide_false, Bool.and_true, Bool.true_and, Bool.and_false, Bool.false_and, eq_self, ne_eq, not_false_eq_true, not_true_eq_false, true_and, and_true, and_self]
      refine scall_pure [.slice none 0 0, .string ⟨#[]⟩] (.c (.v (.string ⟨#[]⟩))) (.string ⟨#[]⟩) Try.call95 join0 rfl (fun _ => rfl) (fun _ => rfl) ?_
      simp only [go_sem, ↓reduceIte, Nat.reduceEqDiff, Nat.reduceLT, Nat.reduceLeDiff, Nat.reduceAdd, Nat.reduceMul, Nat.reduceSub, Nat.reduceDiv, Nat.reduceMod, Int.reduceToNat, Int.reduceLT, Int.reduceLE, Int.reduceAdd, Int.reduceSub, Int.reduceMul, Int.reduceEq, Int.reduceNeg, reduceCtorEq, or_false, false_or, decide_true, decide_false, Int.cast_ofNat_Int, Nat.zero_add, Nat.add_zero, Int.toNat_natCast, Option.isNone_none, Option.isNone_some, Bool.not_true, Bool.not_false, Bool.xor_true, Bool.xor_false, Bool.true_xor, Bool.false_xor, decide_true, decide_false, Bool.and_true, Bool.true_and, Bool.and_false, Bool.false_and, eq_self, ne_eq, not_false_eq_true, not_true_eq_false, true_and, and_true, and_self, h8, hall]
      refine scall_in 12 _ Try.func94 rfl Try.ntmps94 Try.results94 Try.call94 ?_
      simp only [go_sem, ↓reduceIte, Nat.reduceEqDiff, Nat.reduceLT, Nat.reduceLeDiff, Nat.reduceAdd, Nat.reduceMul, Nat.reduceSub, Nat.reduceDiv, Nat.reduceMod, Int.reduceToNat, Int.reduceLT, Int.reduceLE, Int.reduceAdd, Int.reduceSub, Int.reduceMul, Int.reduceEq, Int.reduceNeg, reduceCtorEq, or_false, false_or, decide_true, decide_false, Int.cast_ofNat_Int, Nat.zero_add, Nat.add_zero, Int.toNat_natCast, Option.isNone_none, Option.isNone_some, Bool.not_true, Bool.not_false, Bool.xor_true, Bool.xor_false, Bool.true_xor, Bool.false_xor, decide_true, decide_false, Bool.and_true, Bool.true_and, Bool.and_false, Bool.false_and, eq_self, ne_eq, not_false_eq_true, not_true_eq_false, true_and, and_true, and_self]
      refine fun ρ' a w' hs' hag => ?_
      obtain ⟨fp', hon, hch⟩ := dk_end0 (d := syncD d) rfl rfl hs' ((congrArg Nm.blk (hag 0 Nat.zero_lt_one)).trans hg) ((congrArg Nm.base (hag 0 Nat.zero_lt_one)).trans hb) (by simp [syncD, hbh, setD]; rfl) (by simp [syncD, hbh, setD])
      exact ⟨fp', rfl, hon, hch⟩
    · simp only [go_sem, ↓reduceIte, Nat.reduceEqDiff, Nat.reduceLT, Nat.reduceLeDiff, Nat.reduceAdd, Nat.reduceMul, Nat.reduceSub, Nat.reduceDiv, Nat.reduceMod, Int.reduceToNat, Int.reduceLT, Int.reduceLE, Int.reduceAdd, Int.reduceSub, Int.reduceMul, Int.reduceEq, Int.reduceNeg, reduceCtorEq, or_false, false_or, decide_true, decide_false, Int.cast_ofNat_Int, Nat.zero_add, Nat.add_zero, Int.toNat_natCast, Option.isNone_none, Option.isNone_some, Bool.not_true, Bool.not_false, Bool.xor_true, Bool.xor_false, Bool.true_xor, Bool.false_xor, decide_true, decide_false, Bool.and_true, Bool.true_and, Bool.and_false, Bool.false_and, eq_self, ne_eq, not_false_eq_true, not_true_eq_false, true_and, and_true, and_self, hbh]
      refine fun ρ' a w' hs' hag => ?_
      obtain ⟨fp', hon, hch⟩ := dk_end0 (d := syncD d) rfl rfl hs' ((congrArg Nm.blk (hag 0 Nat.zero_lt_one)).trans hg) ((congrArg Nm.base (hag 0 Nat.zero_lt_one)).trans hb) (by simp [syncD, hbh]; rfl) (by simp [syncD, hbh, hn])
      exact ⟨fp', rfl, hon, hch⟩
  · cases b
    · simp only [go_sem, ↓reduceIte, Nat.reduceEqDiff, Nat.reduceLT, Nat.reduceLeDiff, Nat.reduceAdd, Nat.reduceMul, Nat.reduceSub, Nat.reduceDiv, Nat.reduceMod, Int.reduceToNat, Int.reduceLT, Int.reduceLE, Int.reduceAdd, Int.reduceSub, Int.reduceMul, Int.reduceEq, Int.reduceNeg, reduceCtorEq, or_false, false_or, decide_true, decide_false, Int.cast_ofNat_Int, Nat.zero_add, Nat.add_zero, Int.toNat_natCast, Option.isNone_none, Option.isNone_some, Bool.not_true, Bool.not_false, Bool.xor_true, Bool.xor_false, Bool.true_xor, Bool.false_xor, decide_true, decide_false, Bool.and_true, Bool.true_and, Bool.and_false, Bool.false_and, eq_self, ne_eq, not_false_eq_true, not_true_eq_false, true_and, and_true, and_self, hbh]
      refine scall_in 15 _ Try.func50 rfl Try.ntmps50 Try.results50 Try.call50 ?_
      simp only [go_sem, ↓reduceIte, Nat.reduceEqDiff, Nat.reduceLT, Nat.reduceLeDiff, Nat.reduceAdd, Nat.reduceMul, Nat.reduceSub, Nat.reduceDiv, Nat.reduceMod, Int.reduceToNat, Int.reduceLT, Int.reduceLE, Int.reduceAdd, Int.reduceSub, Int.reduceMul, Int.reduceEq, Int.reduceNeg, reduceCtorEq, or_false, false_or, decide_true, decide_false, Int.cast_ofNat_Int, Nat.zero_add, Nat.add_zero, Int.toNat_natCast, Option.isNone_none, Option.isNone_some, Bool.not_true, Bool.not_false, Bool.xor_true, Bool.xor_false, Bool.true_xor, Bool.false_xor, decide_true, decide_false, Bool.and_true, Bool.true_and, Bool.and_false, Bool.false_and, eq_self, ne_eq, not_false_eq_true, not_true_eq_false, true_and, and_true, and_self]
      refine sdraw0 [.t 0, .t 1, .t 2, .t 3, .t 4, .t 5, .t 6, .t 7, .t 8, .t 9, .r 10, .t 11, .t 12] 13 rfl (by kernel_rfl) ?_
      simp only [go_sem, ↓reduceIte, Nat.reduceEqDiff, Nat.reduceLT, Nat.reduceLeDiff, Nat.reduceAdd, Nat.reduceMul, Nat.reduceSub, Nat.reduceDiv, Nat.reduceMod, Int.reduceToNat, Int.reduceLT, Int.reduceLE, Int.reduceAdd, Int.reduceSub, Int.reduceMul, Int.reduceEq, Int.reduceNeg, reduceCtorEq, or_false, false_or, decide_true, decide_false, Int.cast_ofNat_Int, Nat.zero_add, Nat.add_zero, Int.toNat_natCast, Option.isNone_none, Option.isNone_some, Bool.not_true, Bool.not_false, Bool.xor_true, Bool.xor_false, Bool.true_xor, Bool.false_xor, decide_true, decide_false, Bool.and_true, Bool.true_and, Bool.and_false, Bool.false_and, eq_self, ne_eq, not_false_eq_true, not_true_eq_false, true_and, and_true, and_self]
      refine scall_keep (.c (.v (.string (cat d.late)))) Try.call95 (fun ρ a w' hs' => ?_) rfl (fun _ _ _ => rfl) ?_
      · have hh := hs'.now.hp _ _ (mem_hget (n := 1) rfl)
        have hlt := lt_of_heap hh.2.2.1.choose_spec.1
        have := dk_join hs hl hh hlt
        simpa [SV.denL, SV.den, CV.den, hh.1] using this
      simp only [go_sem, ↓reduceIte, Nat.reduceEqDiff, Nat.reduceLT, Nat.reduceLeDiff, Nat.reduceAdd, Nat.reduceMul, Nat.reduceSub, Nat.reduceDiv, Nat.reduceMod, Int.reduceToNat, Int.reduceLT, Int.reduceLE, Int.reduceAdd, Int.reduceSub, Int.reduceMul, Int.reduceEq, Int.reduceNeg, reduceCtorEq, or_false, false_or, decide_true, decide_false, Int.cast_ofNat_Int, Nat.zero_add, Nat.add_zero, Int.toNat_natCast, Option.isNone_none, Option.isNone_some, Bool.not_true, Bool.not_false, Bool.xor_true, Bool.xor_false, Bool.true_xor, Bool.false_xor, decide_true, decide_false, Bool.and_true, Bool.true_and, Bool.and_false, Bool.false_and, eq_self, ne_eq, not_false_eq_true, not_true_eq_false, true_and, and_true, and_self, h9, hsum]
      refine scall_in 12 _ Try.func94 rfl Try.ntmps94 Try.results94 Try.call94 ?_
      simp only [go_sem, ↓reduceIte, Nat.reduceEqDiff, Nat.reduceLT, Nat.reduceLeDiff, Nat.reduceAdd, Nat.reduceMul, Nat.reduceSub, Nat.reduceDiv, Nat.reduceMod, Int.reduceToNat, Int.reduceLT, Int.reduceLE, Int.reduceAdd, Int.reduceSub, Int.reduceMul, Int.reduceEq, Int.reduceNeg, reduceCtorEq, or_false, false_or, decide_true, decide_false, Int.cast_ofNat_Int, Nat.zero_add, Nat.add_zero, Int.toNat_natCast, Option.isNone_none, Option.isNone_some, Bool.not_true, Bool.not_false, Bool.xor_true, Bool.xor_false, Bool.true_xor, Bool.false_xor, decide_true, decide_false, Bool.and_true, Bool.true_and, Bool.and_false, Bool.false_and, eq_self, ne_eq, not_false_eq_true, not_true_eq_false, true_and, and_true, and_self]
      refine fun ρ' a w' hs' hag => ?_
      obtain ⟨fp', hon, hch⟩ := dk_end0 (d := syncD d) rfl rfl hs' ((congrArg Nm.blk (hag 0 Nat.zero_lt_two)).trans hg) ((congrArg Nm.base (hag 0 Nat.zero_lt_two)).trans hb) (by simp [syncD, hbh, setD]; rfl) (by simp [syncD, hbh, setD])
      exact ⟨fp', rfl, hon, hch⟩
    · simp only [go_sem, ↓reduceIte, Nat.reduceEqDiff, Nat.reduceLT, Nat.reduceLeDiff, Nat.reduceAdd, Nat.reduceMul, Nat.reduceSub, Nat.reduceDiv, Nat.reduceMod, Int.reduceToNat, Int.reduceLT, Int.reduceLE, Int.reduceAdd, Int.reduceSub, Int.reduceMul, Int.reduceEq, Int.reduceNeg, reduceCtorEq, or_false, false_or, decide_true, decide_false, Int.cast_ofNat_Int, Nat.zero_add, Nat.add_zero, Int.toNat_natCast, Option.isNone_none, Option.isNone_some, Bool.not_true, Bool.not_false, Bool.xor_true, Bool.xor_false, Bool.true_xor, Bool.false_xor, decide_true, decide_false, Bool.and_true, Bool.true_and, Bool.and_false, Bool.false_and, eq_self, ne_eq, not_false_eq_true, not_true_eq_false, true_and, and_true, and_self, hbh]
      refine fun ρ' a w' hs' hag => ?_
      have hD : syncD d = d := by simp [syncD, hbh]
      rw [hD]
      obtain ⟨fp', hon, hch⟩ := dk_end1 (d := d) rfl rfl hs' ((congrArg Nm.blk (hag 0 Nat.zero_lt_two)).trans hg) ((congrArg Nm.base (hag 0 Nat.zero_lt_two)).trans hb) Nat.zero_lt_two 1 c (by simp [hbh]; rfl) (by omega) rfl rfl (fun _ _ => rfl) ⟨hl, hp0⟩
      exact ⟨fp', rfl, hon, hch⟩

theorem dnew_c (room : Int) (h : 1 ≤ room ∧ room ≤ 16777216) (w : World) : Calls Try.prog 47 #[.int .i64 room] w fun e w' => ∃ g fp', e = .returned (.tuple #[gptr g, .int .i64 0]) ∧ On g (DSh ⟨⟨#[]⟩, [], room, false⟩) fp' w' ∧ Chg [] fp' w w' := by
  refine calls_pure 13 _ Try.func47 rfl Try.ntmps47 Try.results47 [.c (.v (.int .i64 room))] (by simp) (fun _ => rfl) ?_
  have d1 : decide (room < 1) = false := by simp; omega
  have d2 : decide ((16777216 : Int) < room) = false := by simp; omega
  simp only [go_sem, ↓reduceIte, Nat.reduceEqDiff, Nat.reduceLT, Nat.reduceLeDiff, Nat.reduceAdd, Nat.reduceMul, Nat.reduceSub, Nat.reduceDiv, Nat.reduceMod, Int.reduceToNat, Int.reduceLT, Int.reduceLE, Int.reduceAdd, Int.reduceSub, Int.reduceMul, Int.reduceEq, Int.reduceNeg, reduceCtorEq, or_false, false_or, decide_true, decide_false, Int.cast_ofNat_Int, Nat.zero_add, Nat.add_zero, Int.toNat_natCast, Option.isNone_none, Option.isNone_some, Bool.not_true, Bool.not_false, Bool.xor_true, Bool.xor_false, Bool.true_xor, Bool.false_xor, decide_true, decide_false, Bool.and_true, Bool.true_and, Bool.and_false, Bool.false_and, eq_self, ne_eq, not_false_eq_true, not_true_eq_false, true_and, and_true, and_self, d1, d2]
  refine fun ρ a w' hs _ => ?_
  have hb := (hs.now.hp 0 _ (List.mem_cons_self ..)).1
  obtain ⟨fp', hon, hch⟩ := dk_end0 (fp := []) (g := (ρ 0).blk) (d := ⟨⟨#[]⟩, [], room, false⟩) rfl (by funext k; simp) hs rfl hb rfl rfl
  exact ⟨(ρ 0).blk, fp', by simp [SV.den, CV.den, CV.denL, SV.denL, gptr, hb], hon, hch⟩
theorem dnew_bad (room : Int) (h : ¬ (1 ≤ room ∧ room ≤ 16777216)) (w : World) : Calls Try.prog 47 #[.int .i64 room] w fun e w' => e = .returned (.tuple #[.pointer none, .int .i64 1]) ∧ Below w.heap.size w w' := by
  refine calls_pure 13 _ Try.func47 rfl Try.ntmps47 Try.results47 [.c (.v (.int .i64 room))] (by simp) (fun _ => rfl) ?_
  obtain ⟨b1, b2, d1, d2⟩ : ∃ b1 b2, decide (room < 1) = b1 ∧ decide ((16777216 : Int) < room) = b2 := ⟨_, _, rfl, rfl⟩
  cases b1 <;> cases b2
  · simp at d1 d2; omega
  all_goals
    simp only [go_sem, ↓reduceIte, Nat.reduceEqDiff, Nat.reduceLT, Nat.reduceLeDiff, Nat.reduceAdd, Nat.reduceMul, Nat.reduceSub, Nat.reduceDiv, Nat.reduceMod, Int.reduceToNat, Int.reduceLT, Int.reduceLE, Int.reduceAdd, Int.reduceSub, Int.reduceMul, Int.reduceEq, Int.reduceNeg, reduceCtorEq, or_false, false_or, decide_true, decide_false, Int.cast_ofNat_Int, Nat.zero_add, Nat.add_zero, Int.toNat_natCast, Option.isNone_none, Option.isNone_some, Bool.not_true, Bool.not_false, Bool.xor_true, Bool.xor_false, Bool.true_xor, Bool.false_xor, decide_true, decide_false, Bool.and_true, Bool.true_and, Bool.and_false, Bool.false_and, eq_self, ne_eq, not_false_eq_true, not_true_eq_false, true_and, and_true, and_self, d1, d2]
    exact fun ρ a w' hs _ => ⟨rfl, hs.grown⟩
def cutE (d : Dk) (size : Int) : Int := if size < 0 ∨ (d.all.size : Int) < size then 1 else 0
def cutD (d : Dk) (size : Int) : Dk := if size < 0 ∨ (d.all.size : Int) < size then d else setD d (d.all.extract 0 size.toNat)
set_option maxRecDepth 100000 in
theorem dcut_c (g : Nat) (d : Dk) (size : Int) (hs : d.small) (fp : List Nat) (w : World) (h : On g (DSh d) fp w) : Calls Try.prog 53 #[gptr g, .int .i64 size] w (Turn g fp (.int .i64 (cutE d size)) (DSh (cutD d size)) w) := by
  refine on_calls h 21 _ Try.func53 rfl Try.ntmps53 Try.results53 [.c (.p 0 0 0), .c (.v (.int .i64 size))] (by simp) (fun ρ' h1 h2 => by simp [SV.denL, SV.den, CV.den, gptr, h1, h2]) (fun ρ nx hp hsh hg hb => ?_)
  have hc := Dk.cat_small hs
  have h9 : d.fast.size + (cat d.late).size ≤ 9223372036854775807 := by omega
  have hsum : d.fast ++ cat d.late = d.all := rfl
  obtain ⟨b1, b2, d1, d2⟩ : ∃ b1 b2, decide (size < 0) = b1 ∧ decide ((d.all.size : Int) < size) = b2 := ⟨_, _, rfl, rfl⟩
  have c1 : size < 0 ∨ (d.all.size : Int) < size ↔ (b1 || b2) = true := by rw [← d1, ← d2]; simp
  rcases hsh with ⟨hn, rfl, rfl⟩ | ⟨c, ⟨hl, hp0⟩, rfl, rfl⟩
  · have h8 : d.fast.size + (#[] : Array UInt8).size ≤ 9223372036854775807 := by show d.fast.size + 0 ≤ _; omega
    have hall : d.fast ++ (⟨#[]⟩ : ByteArray) = d.all := by rw [← hsum, hn]; rfl
    simp only [go_sem, ↓reduceIte, Nat.reduceEqDiff, Nat.reduceLT, Nat.reduceLeDiff, Nat.reduceAdd, Nat.reduceMul, Nat.reduceSub, Nat.reduceDiv, Nat.reduceMod, Int.reduceToNat, Int.reduceLT, Int.reduceLE, Int.reduceAdd, Int.reduceSub, Int.reduceMul, Int.reduceEq, Int.reduceNeg, reduceCtorEq, or_false, false_or, decide_true, decide_false, Int.cast_ofNat_Int, Nat.zero_add, Nat.add_zero, Int.toNat_natCast, Option.isNone_none, Option.isNone_some, Bool.not_true, Bool.not_false, Bool.xor_true, Bool.xor_false, Bool.true_xor, Bool.false_xor, decide_true, decide_false, Bool.and_true, Bool.true_and, Bool.and_false, Bool.false_and, eq_self, ne_eq, not_false_eq_true, not_true_eq_false, true_and, and_true, and_self]
    refine scall_in 15 _ Try.func50 rfl Try.ntmps50 Try.results50 Try.call50 ?_
    simp only [go_sem, ↓reduceIte, Nat.reduceEqDiff, Nat.reduceLT, Nat.reduceLeDiff, Nat.reduceAdd, Nat.reduceMul, Nat.reduceSub, Nat.reduceDiv, Nat.reduceMod, Int.reduceToNat, Int.reduceLT, Int.reduceLE, Int.reduceAdd, Int.reduceSub, Int.reduceMul, Int.reduceEq, Int.reduceNeg, reduceCtorEq, or_false, false_or, decide_true, decide_false, Int.cast_ofNat_Int, Nat.zero_add, Nat.add_zero, Int.toNat_natCast, Option.isNone_none, Option.isNone_some, Bool.not_true, Bool.not_false, Bool.xor_true, Bool.xor_false, Bool.true_xor, Bool.false_xor, decide_true, decide_false, Bool.and_true, Bool.true_and, Bool.and_false, Bool.false_and, eq_self, ne_eq, not_false_eq_true, not_true_eq_false, true_and, and_true, and_self]
    refine sdraw0 [.t 0, .t 1, .t 2, .t 3, .t 4, .t 5, .t 6, .t 7, .t 8, .t 9, .r 10, .t 11, .t 12] 13 rfl (by kernel_rfl) ?_
    simp only [go_sem, ↓reduceIte, Nat.reduceEqDiff, Nat.reduceLT, Nat.reduceLeDiff, Nat.reduceAdd, Nat.reduceMul, Nat.reduceSub, Nat.reduceDiv, Nat.reduceMod, Int.reduceToNat, Int.reduceLT, Int.reduceLE, Int.reduceAdd, Int.reduceSub, Int.reduceMul, Int.reduceEq, Int.reduceNeg, reduceCtorEq, or_false, false_or, decide_true, decide_false, Int.cast_ofNat_Int, Nat.zero_add, Nat.add_zero, Int.toNat_natCast, Option.isNone_none, Option.isNone_some, Bool.not_true, Bool.not_false, Bool.xor_true, Bool.xor_false, Bool.true_xor, Bool.false_xor, decide_true, decide_false, Bool.and_true, Bool.true_and, Bool.and_false, Bool.false_and, eq_self, ne_eq, not_false_eq_true, not_true_eq_false, true_and, and_true, and_self]
    refine scall_pure [.slice none 0 0, .string ⟨#[]⟩] (.c (.v (.string ⟨#[]⟩))) (.string ⟨#[]⟩) Try.call95 join0 rfl (fun _ => rfl) (fun _ => rfl) ?_
    cases b1 <;> cases b2
    · have c2 : ¬ (size < 0 ∨ (d.all.size : Int) < size) := by rw [c1]; simp
      have c3 : 0 ≤ size ∧ size ≤ (d.all.size : Int) := by omega
      have c4 : (0 : Int) ≤ 0 ∧ 0 ≤ size := by omega
      unfold cutE cutD
      rw [if_neg c2, if_neg c2]
      simp only [go_sem, ↓reduceIte, Nat.reduceEqDiff, Nat.reduceLT, Nat.reduceLeDiff, Nat.reduceAdd, Nat.reduceMul, Nat.reduceSub, Nat.reduceDiv, Nat.reduceMod, Int.reduceToNat, Int.reduceLT, Int.reduceLE, Int.reduceAdd, Int.reduceSub, Int.reduceMul, Int.reduceEq, Int.reduceNeg, reduceCtorEq, or_false, false_or, decide_true, decide_false, Int.cast_ofNat_Int, Nat.zero_add, Nat.add_zero, Int.toNat_natCast, Option.isNone_none, Option.isNone_some, Bool.not_true, Bool.not_false, Bool.xor_true, Bool.xor_false, Bool.true_xor, Bool.false_xor, decide_true, decide_false, Bool.and_true, Bool.true_and, Bool.and_false, Bool.false_and, eq_self, ne_eq, not_false_eq_true, not_true_eq_false, true_and, and_true, and_self, h8, hall, d1, d2, c3, c4]
      refine scall_in 12 _ Try.func94 rfl Try.ntmps94 Try.results94 Try.call94 ?_
      simp only [go_sem, ↓reduceIte, Nat.reduceEqDiff, Nat.reduceLT, Nat.reduceLeDiff, Nat.reduceAdd, Nat.reduceMul, Nat.reduceSub, Nat.reduceDiv, Nat.reduceMod, Int.reduceToNat, Int.reduceLT, Int.reduceLE, Int.reduceAdd, Int.reduceSub, Int.reduceMul, Int.reduceEq, Int.reduceNeg, reduceCtorEq, or_false, false_or, decide_true, decide_false, Int.cast_ofNat_Int, Nat.zero_add, Nat.add_zero, Int.toNat_natCast, Option.isNone_none, Option.isNone_some, Bool.not_true, Bool.not_false, Bool.xor_true, Bool.xor_false, Bool.true_xor, Bool.false_xor, decide_true, decide_false, Bool.and_true, Bool.true_and, Bool.and_false, Bool.false_and, eq_self, ne_eq, not_false_eq_true, not_true_eq_false, true_and, and_true, and_self]
      refine fun ρ' a w' hs' hag => ?_
      obtain ⟨fp', hon, hch⟩ := dk_end0 (d := setD d (d.all.extract 0 size.toNat)) rfl rfl hs' ((congrArg Nm.blk (hag 0 Nat.zero_lt_one)).trans hg) ((congrArg Nm.base (hag 0 Nat.zero_lt_one)).trans hb) rfl rfl
      exact ⟨fp', rfl, hon, hch⟩
    all_goals
      have c2 : (size < 0 ∨ (d.all.size : Int) < size) := by rw [c1]; simp
      unfold cutE cutD
      rw [if_pos c2, if_pos c2]
      simp only [go_sem, ↓reduceIte, Nat.reduceEqDiff, Nat.reduceLT, Nat.reduceLeDiff, Nat.reduceAdd, Nat.reduceMul, Nat.reduceSub, Nat.reduceDiv, Nat.reduceMod, Int.reduceToNat, Int.reduceLT, Int.reduceLE, Int.reduceAdd, Int.reduceSub, Int.reduceMul, Int.reduceEq, Int.reduceNeg, reduceCtorEq, or_false, false_or, decide_true, decide_false, Int.cast_ofNat_Int, Nat.zero_add, Nat.add_zero, Int.toNat_natCast, Option.isNone_none, Option.isNone_some, Bool.not_true, Bool.not_false, Bool.xor_true, Bool.xor_false, Bool.true_xor, Bool.false_xor, decide_true, decide_false, Bool.and_true, Bool.true_and, Bool.and_false, Bool.false_and, eq_self, ne_eq, not_false_eq_true, not_true_eq_false, true_and, and_true, and_self, h8, hall, d1, d2]
      refine fun ρ' a w' hs' hag => ?_
      obtain ⟨fp', hon, hch⟩ := dk_end0 (d := d) rfl rfl hs' ((congrArg Nm.blk (hag 0 Nat.zero_lt_one)).trans hg) ((congrArg Nm.base (hag 0 Nat.zero_lt_one)).trans hb) rfl hn
      exact ⟨fp', rfl, hon, hch⟩
  · simp only [go_sem, ↓reduceIte, Nat.reduceEqDiff, Nat.reduceLT, Nat.reduceLeDiff, Nat.reduceAdd, Nat.reduceMul, Nat.reduceSub, Nat.reduceDiv, Nat.reduceMod, Int.reduceToNat, Int.reduceLT, Int.reduceLE, Int.reduceAdd, Int.reduceSub, Int.reduceMul, Int.reduceEq, Int.reduceNeg, reduceCtorEq, or_false, false_or, decide_true, decide_false, Int.cast_ofNat_Int, Nat.zero_add, Nat.add_zero, Int.toNat_natCast, Option.isNone_none, Option.isNone_some, Bool.not_true, Bool.not_false, Bool.xor_true, Bool.xor_false, Bool.true_xor, Bool.false_xor, decide_true, decide_false, Bool.and_true, Bool.true_and, Bool.and_false, Bool.false_and, eq_self, ne_eq, not_false_eq_true, not_true_eq_false, true_and, and_true, and_self]
    refine scall_in 15 _ Try.func50 rfl Try.ntmps50 Try.results50 Try.call50 ?_
    simp only [go_sem, ↓reduceIte, Nat.reduceEqDiff, Nat.reduceLT, Nat.reduceLeDiff, Nat.reduceAdd, Nat.reduceMul, Nat.reduceSub, Nat.reduceDiv, Nat.reduceMod, Int.reduceToNat, Int.reduceLT, Int.reduceLE, Int.reduceAdd, Int.reduceSub, Int.reduceMul, Int.reduceEq, Int.reduceNeg, reduceCtorEq, or_false, false_or, decide_true, decide_false, Int.cast_ofNat_Int, Nat.zero_add, Nat.add_zero, Int.toNat_natCast, Option.isNone_none, Option.isNone_some, Bool.not_true, Bool.not_false, Bool.xor_true, Bool.xor_false, Bool.true_xor, Bool.false_xor, decide_true, decide_false, Bool.and_true, Bool.true_and, Bool.and_false, Bool.false_and, eq_self, ne_eq, not_false_eq_true, not_true_eq_false, true_and, and_true, and_self]
    refine sdraw0 [.t 0, .t 1, .t 2, .t 3, .t 4, .t 5, .t 6, .t 7, .t 8, .t 9, .r 10, .t 11, .t 12] 13 rfl (by kernel_rfl) ?_
    simp only [go_sem, ↓reduceIte, Nat.reduceEqDiff, Nat.reduceLT, Nat.reduceLeDiff, Nat.reduceAdd, Nat.reduceMul, Nat.reduceSub, Nat.reduceDiv, Nat.reduceMod, Int.reduceToNat, Int.reduceLT, Int.reduceLE, Int.reduceAdd, Int.reduceSub, Int.reduceMul, Int.reduceEq, Int.reduceNeg, reduceCtorEq, or_false, false_or, decide_true, decide_false, Int.cast_ofNat_Int, Nat.zero_add, Nat.add_zero, Int.toNat_natCast, Option.isNone_none, Option.isNone_some, Bool.not_true, Bool.not_false, Bool.xor_true, Bool.xor_false, Bool.true_xor, Bool.false_xor, decide_true, decide_false, Bool.and_true, Bool.true_and, Bool.and_false, Bool.false_and, eq_self, ne_eq, not_false_eq_true, not_true_eq_false, true_and, and_true, and_self]
    refine scall_keep (.c (.v (.string (cat d.late)))) Try.call95 (fun ρ a w' hs' => ?_) rfl (fun _ _ _ => rfl) ?_
    · have hh := hs'.now.hp _ _ (mem_hget (n := 1) rfl)
      have hlt := lt_of_heap hh.2.2.1.choose_spec.1
      have := dk_join hs hl hh hlt
      simpa [SV.denL, SV.den, CV.den, hh.1] using this
    cases b1 <;> cases b2
    · have c2 : ¬ (size < 0 ∨ (d.all.size : Int) < size) := by rw [c1]; simp
      have c3 : 0 ≤ size ∧ size ≤ (d.all.size : Int) := by omega
      have c4 : (0 : Int) ≤ 0 ∧ 0 ≤ size := by omega
      unfold cutE cutD
      rw [if_neg c2, if_neg c2]
      simp only [go_sem, ↓reduceIte, Nat.reduceEqDiff, Nat.reduceLT, Nat.reduceLeDiff, Nat.reduceAdd, Nat.reduceMul, Nat.reduceSub, Nat.reduceDiv, Nat.reduceMod, Int.reduceToNat, Int.reduceLT, Int.reduceLE, Int.reduceAdd, Int.reduceSub, Int.reduceMul, Int.reduceEq, Int.reduceNeg, reduceCtorEq, or_false, false_or, decide_true, decide_false, Int.cast_ofNat_Int, Nat.zero_add, Nat.add_zero, Int.toNat_natCast, Option.isNone_none, Option.isNone_some, Bool.not_true, Bool.not_false, Bool.xor_true, Bool.xor_false, Bool.true_xor, Bool.false_xor, decide_true, decide_false, Bool.and_true, Bool.true_and, Bool.and_false, Bool.false_and, eq_self, ne_eq, not_false_eq_true, not_true_eq_false, true_and, and_true, and_self, h9, hsum, d1, d2, c3, c4]
      refine scall_in 12 _ Try.func94 rfl Try.ntmps94 Try.results94 Try.call94 ?_
      simp only [go_sem, ↓reduceIte, Nat.reduceEqDiff, Nat.reduceLT, Nat.reduceLeDiff, Nat.reduceAdd, Nat.reduceMul, Nat.reduceSub, Nat.reduceDiv, Nat.reduceMod, Int.reduceToNat, Int.reduceLT, Int.reduceLE, Int.reduceAdd, Int.reduceSub, Int.reduceMul, Int.reduceEq, Int.reduceNeg, reduceCtorEq, or_false, false_or, decide_true, decide_false, Int.cast_ofNat_Int, Nat.zero_add, Nat.add_zero, Int.toNat_natCast, Option.isNone_none, Option.isNone_some, Bool.not_true, Bool.not_false, Bool.xor_true, Bool.xor_false, Bool.true_xor, Bool.false_xor, decide_true, decide_false, Bool.and_true, Bool.true_and, Bool.and_false, Bool.false_and, eq_self, ne_eq, not_false_eq_true, not_true_eq_false, true_and, and_true, and_self]
      refine fun ρ' a w' hs' hag => ?_
      obtain ⟨fp', hon, hch⟩ := dk_end0 (d := setD d (d.all.extract 0 size.toNat)) rfl rfl hs' ((congrArg Nm.blk (hag 0 Nat.zero_lt_two)).trans hg) ((congrArg Nm.base (hag 0 Nat.zero_lt_two)).trans hb) rfl rfl
      exact ⟨fp', rfl, hon, hch⟩
    all_goals
      have c2 : (size < 0 ∨ (d.all.size : Int) < size) := by rw [c1]; simp
      unfold cutE cutD
      rw [if_pos c2, if_pos c2]
      simp only [go_sem, ↓reduceIte, Nat.reduceEqDiff, Nat.reduceLT, Nat.reduceLeDiff, Nat.reduceAdd, Nat.reduceMul, Nat.reduceSub, Nat.reduceDiv, Nat.reduceMod, Int.reduceToNat, Int.reduceLT, Int.reduceLE, Int.reduceAdd, Int.reduceSub, Int.reduceMul, Int.reduceEq, Int.reduceNeg, reduceCtorEq, or_false, false_or, decide_true, decide_false, Int.cast_ofNat_Int, Nat.zero_add, Nat.add_zero, Int.toNat_natCast, Option.isNone_none, Option.isNone_some, Bool.not_true, Bool.not_false, Bool.xor_true, Bool.xor_false, Bool.true_xor, Bool.false_xor, decide_true, decide_false, Bool.and_true, Bool.true_and, Bool.and_false, Bool.false_and, eq_self, ne_eq, not_false_eq_true, not_true_eq_false, true_and, and_true, and_self, h9, hsum, d1, d2]
      refine fun ρ' a w' hs' hag => ?_
      obtain ⟨fp', hon, hch⟩ := dk_end1 (d := d) rfl rfl hs' ((congrArg Nm.blk (hag 0 Nat.zero_lt_two)).trans hg) ((congrArg Nm.base (hag 0 Nat.zero_lt_two)).trans hb) Nat.zero_lt_two 1 c rfl (by omega) rfl rfl (fun _ _ => rfl) ⟨hl, hp0⟩
      exact ⟨fp', rfl, hon, hch⟩
end Go.Proofs.Ytfokingbglkmjaa
