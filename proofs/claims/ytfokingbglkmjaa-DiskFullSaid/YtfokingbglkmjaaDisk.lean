/-
  The disk: what its functions do. Conditions: none.
-/
import Derived.Test.YtfokingbglkmjaaSx15
import Derived.Test.YtfokingbglkmjaaTy
import Derived.Test.YtfokingbglkmjaaShelf
import Derived.Lib.Join
import Derived.Lib.Repeat
namespace Go.Proofs.Ytfokingbglkmjaa
open Go.RowKit Go.Sx
set_option linter.unusedVariables false
set_option linter.unusedSimpArgs false
set_option linter.unusedSectionVars false

theorem join_flat (l : List (List UInt8)) : Lib.join l [] = l.flatten := by
  cases l with
  | nil => rfl
  | cons x r => rw [Lib.join_cons]; simp [Lib.joinTail]
def cat (l : List ByteArray) : ByteArray := ⟨(Lib.join (l.map (·.data.toList)) []).toArray⟩
theorem cat_nil : cat [] = .empty := rfl
theorem cat_snoc (l : List ByteArray) (s : ByteArray) : cat (l ++ [s]) = cat l ++ s := by
  apply ByteArray.ext
  simp [cat, join_flat]
structure Dk where
  fast : ByteArray
  late : List ByteArray
  room : Int
  held : Bool
def Dk.all (d : Dk) : ByteArray := d.fast ++ cat d.late
def dkLate (d : Dk) (j : Nat) : List CV := [.v (.string (d.late.getD j .empty))]
def DSh (d : Dk) (nx : Nat) (hp : List (Nat × Blk)) : Prop :=
  (d.late = [] ∧ nx = 1 ∧ hp = [(0, .cells 179 [.v (.string d.fast), .v (.slice none 0 0), .v (.int .i64 d.room), .v (.bool d.held)])]) ∨
  ∃ c, (d.late.length ≤ c ∧ 0 < d.late.length) ∧ nx = 2 ∧ hp = [(0, .cells 179 [.v (.string d.fast), .s 1 0 d.late.length c, .v (.int .i64 d.room), .v (.bool d.held)]), (1, .rows 9 1 d.late.length c (dkLate d))]
def Dk.small (d : Dk) : Prop := d.all.size ≤ 1073741824 ∧ d.late.length ≤ 1073741824
theorem Dk.cat_small {d : Dk} (h : d.small) : (cat d.late).size ≤ 1073741824 ∧ d.fast.size ≤ 1073741824 := by
  have h := h.1
  unfold Dk.all at h
  rw [ByteArray.size_append] at h
  omega
set_option maxRecDepth 100000 in
theorem dk_join {ρ : Env} {w : World} {C : Cx} {d : Dk} {c : Nat} (hs : d.small) (hl : d.late.length ≤ c) (h : (Blk.rows 9 1 d.late.length c (dkLate d)).holds C ρ 1 w) (hlt : (ρ 1).blk < w.heap.size) :
    Calls Try.prog 95 #[.slice (some ⟨(ρ 1).blk, 0, none⟩) d.late.length c, .string ⟨#[]⟩] w fun e w' => e = .returned (.string (cat d.late)) ∧ Below w.heap.size w w' := by
  have h1 := Dk.cat_small hs
  refine Try.strings_Join (ρ 1).blk 0 c d.late .empty w (fun j x hx => ?_) hlt (Nat.le_trans hs.2 (by omega)) hl ?_
  · obtain ⟨hj, he⟩ := List.getElem?_eq_some_iff.1 hx
    have := cell_of_rows h hj (x := .v (.string x)) (by simp only [dkLate]; rw [List.getD_eq_getElem?_getD, hx]; rfl)
    simpa [CV.den] using this
  · show (cat d.late).data.toList.length ≤ _
    have : (cat d.late).data.toList.length = (cat d.late).size := Array.length_toList
    omega

theorem dk_end0 {C : Cx} {fp : List Nat} {w w' : World} {fr : List (Nat × SV)} {hp : List (Nat × Blk)} {nx : Nat} {ρ : Env} {a : Act} {g : Nat} {d : Dk} (hw : C.w0 = w) (hM : C.M = (· ∈ fp)) (hs : Sat C ⟨fr, hp, nx⟩ ρ a w') (hg : (ρ 0).blk = g) (hb : (ρ 0).base = 0)
    (h0 : hget hp 0 = some (.cells 179 [.v (.string d.fast), .v (.slice none 0 0), .v (.int .i64 d.room), .v (.bool d.held)])) (hl : d.late = []) : ∃ fp', On g (DSh d) fp' w' ∧ Chg fp fp' w w' :=
  on_ends (Sh := DSh d) (g := g) hw hM hs id (nx' := 1) (hp' := [(0, .cells 179 [.v (.string d.fast), .v (.slice none 0 0), .v (.int .i64 d.room), .v (.bool d.held)])]) ⟨⟨by omega, by simp [Blk.bl, CV.blL, CV.bl], h0⟩, trivial⟩ (by simp) rfl (.inl ⟨hl, rfl, rfl⟩) hg hb (by omega)
theorem dk_end1 {C : Cx} {fp : List Nat} {w w' : World} {fr : List (Nat × SV)} {hp : List (Nat × Blk)} {nx : Nat} {ρ : Env} {a : Act} {g : Nat} {d : Dk} (hw : C.w0 = w) (hM : C.M = (· ∈ fp)) (hs : Sat C ⟨fr, hp, nx⟩ ρ a w') (hg : (ρ 0).blk = g) (hb : (ρ 0).base = 0) (hn0 : 0 < C.n0) (m c : Nat) {r : Nat → List CV} {n : Nat}
    (h0 : hget hp 0 = some (.cells 179 [.v (.string d.fast), .s m 0 n c, .v (.int .i64 d.room), .v (.bool d.held)])) (hm : m ≠ 0) (h1 : hget hp m = some (.rows 9 1 n c r)) (hn : n = d.late.length) (hr : ∀ j, j < n → dkLate d j = r j) (hc : n ≤ c ∧ 0 < n) : ∃ fp', On g (DSh d) fp' w' ∧ Chg fp fp' w w' := by
  subst hn
  obtain ⟨ρ', hs', hρ⟩ := ent_rows (C := C) (fr := fr) (nx := nx) m h1 hr ρ a w' hs
  have g1 : ∀ (hp : List (Nat × Blk)) (b b' : Blk), hget hp m = some b' → hget (hset hp m b) m = some b := fun hp b b' h => by
    induction hp with
    | nil => simp [hget] at h
    | cons x y ih =>
      obtain ⟨q, v⟩ := x
      rw [hget_cons] at h
      rw [hset_cons]
      by_cases hq : q = m
      · rw [if_pos hq, hget_cons, if_pos hq]
      · rw [if_neg hq, hget_cons, if_neg hq]; rw [if_neg hq] at h; exact ih h
  have g2 : ∀ (hp : List (Nat × Blk)) (b : Blk), hget (hset hp m b) 0 = hget hp 0 := fun hp b => by
    induction hp with
    | nil => rfl
    | cons x y ih =>
      obtain ⟨q, v⟩ := x
      rw [hset_cons]
      by_cases hq : q = m
      · rw [if_pos hq, hget_cons, hget_cons, if_neg (by omega), if_neg (by omega)]
      · rw [if_neg hq, hget_cons, hget_cons, ih]
  have h0' := hρ 0 hn0
  refine on_ends (Sh := DSh d) (g := g) hw hM hs' (fun k => if k = 1 then m else k) (nx' := 2) (hp' := [(0, .cells 179 [.v (.string d.fast), .s 1 0 d.late.length c, .v (.int .i64 d.room), .v (.bool d.held)]), (1, .rows 9 1 d.late.length c (dkLate d))]) ⟨⟨by omega, by simp [Blk.bl, CV.blL, CV.bl], ?_⟩, ⟨by omega, fun j _ => by simp [dkLate, CV.blL, CV.bl], ?_⟩, trivial⟩ (by simp; omega) rfl (.inr ⟨c, hc, rfl, rfl⟩) ((congrArg Nm.blk h0').trans hg) ((congrArg Nm.base h0').trans hb) (by omega)
  · show hget _ 0 = _
    rw [g2, h0]; rfl
  · show hget _ m = _
    rw [g1 hp _ _ h1]; rfl

set_option maxRecDepth 100000 in
theorem dbytes_c (g : Nat) (d : Dk) (hs : d.small) (fp : List Nat) (w : World) (h : On g (DSh d) fp w) : Calls Try.prog 50 #[gptr g] w (TurnK g fp (.string d.all) (DSh d) w) := by
  refine on_calls2 h 15 _ Try.func50 rfl Try.ntmps50 Try.results50 [.c (.p 0 0 0)] (by simp) (fun ρ' h1 h2 => by simp [SV.denL, SV.den, CV.den, gptr, h1, h2]) (fun ρ nx hp hsh hg hb hh => ?_)
  have hc := Dk.cat_small hs
  rcases hsh with ⟨hn, rfl, rfl⟩ | ⟨c, ⟨hl, hp0⟩, rfl, rfl⟩
  · simp only [go_sem, ↓reduceIte, Nat.reduceEqDiff, Nat.reduceLT, Nat.reduceLeDiff, Nat.reduceAdd, Nat.reduceMul, Nat.reduceSub, Nat.reduceDiv, Nat.reduceMod, Int.reduceToNat, Int.reduceLT, Int.reduceLE, Int.reduceAdd, Int.reduceSub, Int.reduceMul, Int.reduceEq, Int.reduceNeg, reduceCtorEq, or_false, false_or, decide_true, decide_false, Int.cast_ofNat_Int, Nat.zero_add, Nat.add_zero, Int.toNat_natCast, Option.isNone_none, Option.isNone_some, Bool.not_true, Bool.not_false, Bool.xor_true, Bool.xor_false, Bool.true_xor, Bool.false_xor, decide_true, decide_false, Bool.and_true, Bool.true_and, Bool.and_false, Bool.false_and, eq_self, ne_eq, not_false_eq_true, not_true_eq_false, true_and, and_true, and_self]
    refine sdraw0 [.t 0, .t 1, .t 2, .t 3, .t 4, .t 5, .t 6, .t 7, .t 8, .t 9, .r 10, .t 11, .t 12] 13 rfl (by kernel_rfl) ?_
    simp only [go_sem, ↓reduceIte, Nat.reduceEqDiff, Nat.reduceLT, Nat.reduceLeDiff, Nat.reduceAdd, Nat.reduceMul, Nat.reduceSub, Nat.reduceDiv, Nat.reduceMod, Int.reduceToNat, Int.reduceLT, Int.reduceLE, Int.reduceAdd, Int.reduceSub, Int.reduceMul, Int.reduceEq, Int.reduceNeg, reduceCtorEq, or_false, false_or, decide_true, decide_false, Int.cast_ofNat_Int, Nat.zero_add, Nat.add_zero, Int.toNat_natCast, Option.isNone_none, Option.isNone_some, Bool.not_true, Bool.not_false, Bool.xor_true, Bool.xor_false, Bool.true_xor, Bool.false_xor, decide_true, decide_false, Bool.and_true, Bool.true_and, Bool.and_false, Bool.false_and, eq_self, ne_eq, not_false_eq_true, not_true_eq_false, true_and, and_true, and_self]
    refine scall_pure [.slice none 0 0, .string ⟨#[]⟩] (.c (.v (.string ⟨#[]⟩))) (.string ⟨#[]⟩) Try.call95 (fun w => (Try.strings_Join_none none 0 _ w).mono fun e w' ⟨h1, h2⟩ => ⟨h1, h2 ▸ Below.refl _ _⟩) rfl (fun _ => rfl) (fun _ => rfl) ?_
    have h9 : d.fast.size + (#[] : Array UInt8).size ≤ 9223372036854775807 := by show d.fast.size + 0 ≤ _; omega
    simp only [go_sem, ↓reduceIte, Nat.reduceEqDiff, Nat.reduceLT, Nat.reduceLeDiff, Nat.reduceAdd, Nat.reduceMul, Nat.reduceSub, Nat.reduceDiv, Nat.reduceMod, Int.reduceToNat, Int.reduceLT, Int.reduceLE, Int.reduceAdd, Int.reduceSub, Int.reduceMul, Int.reduceEq, Int.reduceNeg, reduceCtorEq, or_false, false_or, decide_true, decide_false, Int.cast_ofNat_Int, Nat.zero_add, Nat.add_zero, Int.toNat_natCast, Option.isNone_none, Option.isNone_some, Bool.not_true, Bool.not_false, Bool.xor_true, Bool.xor_false, Bool.true_xor, Bool.false_xor, decide_true, decide_false, Bool.and_true, Bool.true_and, Bool.and_false, Bool.false_and, eq_self, ne_eq, not_false_eq_true, not_true_eq_false, true_and, and_true, and_self, h9]
    refine fun ρ' a w' hs' hag => ?_
    refine ⟨?_, on_same rfl rfl hs' hag hh rfl (.inl ⟨hn, rfl, rfl⟩) hg hb⟩
    simp only [Dk.all, hn]
    rfl
  · simp only [go_sem, ↓reduceIte, Nat.reduceEqDiff, Nat.reduceLT, Nat.reduceLeDiff, Nat.reduceAdd, Nat.reduceMul, Nat.reduceSub, Nat.reduceDiv, Nat.reduceMod, Int.reduceToNat, Int.reduceLT, Int.reduceLE, Int.reduceAdd, Int.reduceSub, Int.reduceMul, Int.reduceEq, Int.reduceNeg, reduceCtorEq, or_false, false_or, decide_true, decide_false, Int.cast_ofNat_Int, Nat.zero_add, Nat.add_zero, Int.toNat_natCast, Option.isNone_none, Option.isNone_some, Bool.not_true, Bool.not_false, Bool.xor_true, Bool.xor_false, Bool.true_xor, Bool.false_xor, decide_true, decide_false, Bool.and_true, Bool.true_and, Bool.and_false, Bool.false_and, eq_self, ne_eq, not_false_eq_true, not_true_eq_false, true_and, and_true, and_self]
    refine sdraw0 [.t 0, .t 1, .t 2, .t 3, .t 4, .t 5, .t 6, .t 7, .t 8, .t 9, .r 10, .t 11, .t 12] 13 rfl (by kernel_rfl) ?_
    simp only [go_sem, ↓reduceIte, Nat.reduceEqDiff, Nat.reduceLT, Nat.reduceLeDiff, Nat.reduceAdd, Nat.reduceMul, Nat.reduceSub, Nat.reduceDiv, Nat.reduceMod, Int.reduceToNat, Int.reduceLT, Int.reduceLE, Int.reduceAdd, Int.reduceSub, Int.reduceMul, Int.reduceEq, Int.reduceNeg, reduceCtorEq, or_false, false_or, decide_true, decide_false, Int.cast_ofNat_Int, Nat.zero_add, Nat.add_zero, Int.toNat_natCast, Option.isNone_none, Option.isNone_some, Bool.not_true, Bool.not_false, Bool.xor_true, Bool.xor_false, Bool.true_xor, Bool.false_xor, decide_true, decide_false, Bool.and_true, Bool.true_and, Bool.and_false, Bool.false_and, eq_self, ne_eq, not_false_eq_true, not_true_eq_false, true_and, and_true, and_self]
    refine scall_keep (.c (.v (.string (cat d.late)))) Try.call95 (fun ρ a w' hs' => ?_) rfl (fun _ _ _ => rfl) ?_
    · have hh := hs'.now.hp _ _ (mem_hget (n := 1) rfl)
      have hlt := lt_of_heap hh.2.2.1.choose_spec.1
      have := dk_join hs hl hh hlt
      simpa [SV.denL, SV.den, CV.den, hh.1] using this
    have h9 : d.fast.size + (cat d.late).size ≤ 9223372036854775807 := by omega
    simp only [go_sem, ↓reduceIte, Nat.reduceEqDiff, Nat.reduceLT, Nat.reduceLeDiff, Nat.reduceAdd, Nat.reduceMul, Nat.reduceSub, Nat.reduceDiv, Nat.reduceMod, Int.reduceToNat, Int.reduceLT, Int.reduceLE, Int.reduceAdd, Int.reduceSub, Int.reduceMul, Int.reduceEq, Int.reduceNeg, reduceCtorEq, or_false, false_or, decide_true, decide_false, Int.cast_ofNat_Int, Nat.zero_add, Nat.add_zero, Int.toNat_natCast, Option.isNone_none, Option.isNone_some, Bool.not_true, Bool.not_false, Bool.xor_true, Bool.xor_false, Bool.true_xor, Bool.false_xor, decide_true, decide_false, Bool.and_true, Bool.true_and, Bool.and_false, Bool.false_and, eq_self, ne_eq, not_false_eq_true, not_true_eq_false, true_and, and_true, and_self, h9]
    refine fun ρ' a w' hs' hag => ?_
    exact ⟨rfl, on_same rfl rfl hs' hag hh rfl (.inr ⟨c, ⟨hl, hp0⟩, rfl, rfl⟩) hg hb⟩
end Go.Proofs.Ytfokingbglkmjaa
