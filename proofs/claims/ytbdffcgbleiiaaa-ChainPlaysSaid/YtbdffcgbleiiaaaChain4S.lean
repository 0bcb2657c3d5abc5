/-
  A chain of versions: All, Prune. Conditions: none.
-/
import Derived.Test.YtbdffcgbleiiaaaChain3S
import Derived.Test.YtbdffcgbleiiaaaSx22
namespace Go.Proofs.Ytbdffcgbleiiaaa.CS
open Go.RowKit Go.Sx
set_option linter.unusedVariables false
set_option linter.unusedSimpArgs false

theorem vrow_len {l : List Ver} {j : Nat} (h : j < l.length) : (vrow l j).length = 6 := by
  simp [vrow, List.getElem?_eq_getElem h, Ver.l]
theorem call_c (g : Nat) (l : List Ver) (hl : l.length ≤ 1000000) (fp : List Nat) (w : World) (h : On g (CSh l) fp w) :
    Calls Try.prog 24 #[gptr g] w fun e w' => ∃ s, e = .returned (slq s l.length) ∧ NewRows 52 6 l.length (vrow l) s w w' ∧ On g (CSh l) fp w' ∧ Chg fp fp w w' := by
  refine on_calls2 h 8 _ Try.func24 rfl Try.ntmps24 Try.results24 [.c (.p 0 0 0)] (by simp) (fun ρ' h1 h2 => by simp [SV.denL, SV.den, CV.den, gptr, h1, h2]) (fun ρ nx hp hsh hg hb hh => ?_)
  have hsh0 := hsh
  rcases hsh with ⟨hn, rfl, rfl⟩ | ⟨c, ⟨hc, hc0⟩, rfl, rfl⟩
  · have hl0 : l.length = 0 := by rw [hn]; rfl
    simp only [go_sem, ↓reduceIte, Nat.reduceEqDiff, Nat.reduceLT, Nat.reduceLeDiff, Nat.reduceAdd, Nat.reduceMul, Nat.reduceSub, Nat.reduceDiv, Nat.reduceMod, Int.reduceToNat, Int.reduceLT, Int.reduceLE, Int.reduceAdd, Int.reduceSub, Int.reduceMul, Int.reduceEq, Int.reduceNeg, reduceCtorEq, or_false, false_or, decide_true, decide_false, Int.cast_ofNat_Int, Nat.zero_add, Nat.add_zero, Int.toNat_natCast, Option.isNone_none, Option.isNone_some, Bool.not_true, Bool.not_false, Bool.xor_true, Bool.xor_false, Bool.true_xor, Bool.false_xor, decide_true, decide_false, Bool.and_true, Bool.true_and, Bool.and_false, Bool.false_and, eq_self, ne_eq, not_false_eq_true, not_true_eq_false, true_and, and_true, and_self]
    refine scall_in 8 _ Try.func63 rfl Try.ntmps63 Try.results63 Try.call63 (by simp only [go_sem, ↓reduceIte, Nat.reduceEqDiff, Nat.reduceLT, Nat.reduceLeDiff, Nat.reduceAdd, Nat.reduceMul, Nat.reduceSub, Nat.reduceDiv, Nat.reduceMod, Int.reduceToNat, Int.reduceLT, Int.reduceLE, Int.reduceAdd, Int.reduceSub, Int.reduceMul, Int.reduceEq, Int.reduceNeg, reduceCtorEq, or_false, false_or, decide_true, decide_false, Int.cast_ofNat_Int, Nat.zero_add, Nat.add_zero, Int.toNat_natCast, Option.isNone_none, Option.isNone_some, Bool.not_true, Bool.not_false, Bool.xor_true, Bool.xor_false, Bool.true_xor, Bool.false_xor, decide_true, decide_false, Bool.and_true, Bool.true_and, Bool.and_false, Bool.false_and, eq_self, ne_eq, not_false_eq_true, not_true_eq_false, true_and, and_true, and_self]) (fun _ _ => ?_)
    simp only [go_sem, ↓reduceIte, Nat.reduceEqDiff, Nat.reduceLT, Nat.reduceLeDiff, Nat.reduceAdd, Nat.reduceMul, Nat.reduceSub, Nat.reduceDiv, Nat.reduceMod, Int.reduceToNat, Int.reduceLT, Int.reduceLE, Int.reduceAdd, Int.reduceSub, Int.reduceMul, Int.reduceEq, Int.reduceNeg, reduceCtorEq, or_false, false_or, decide_true, decide_false, Int.cast_ofNat_Int, Nat.zero_add, Nat.add_zero, Int.toNat_natCast, Option.isNone_none, Option.isNone_some, Bool.not_true, Bool.not_false, Bool.xor_true, Bool.xor_false, Bool.true_xor, Bool.false_xor, decide_true, decide_false, Bool.and_true, Bool.true_and, Bool.and_false, Bool.false_and, eq_self, ne_eq, not_false_eq_true, not_true_eq_false, true_and, and_true, and_self]
    refine fun ρ' a w' hs' hag => ⟨none, ?_, hl0, on_same rfl rfl hs' hag hh rfl hsh0 hg hb⟩
    simp [SV.den, CV.den, slq]
  · simp only [go_sem, ↓reduceIte, Nat.reduceEqDiff, Nat.reduceLT, Nat.reduceLeDiff, Nat.reduceAdd, Nat.reduceMul, Nat.reduceSub, Nat.reduceDiv, Nat.reduceMod, Int.reduceToNat, Int.reduceLT, Int.reduceLE, Int.reduceAdd, Int.reduceSub, Int.reduceMul, Int.reduceEq, Int.reduceNeg, reduceCtorEq, or_false, false_or, decide_true, decide_false, Int.cast_ofNat_Int, Nat.zero_add, Nat.add_zero, Int.toNat_natCast, Option.isNone_none, Option.isNone_some, Bool.not_true, Bool.not_false, Bool.xor_true, Bool.xor_false, Bool.true_xor, Bool.false_xor, decide_true, decide_false, Bool.and_true, Bool.true_and, Bool.and_false, Bool.false_and, eq_self, ne_eq, not_false_eq_true, not_true_eq_false, true_and, and_true, and_self]
    refine scall_in 8 _ Try.func63 rfl Try.ntmps63 Try.results63 Try.call63 (by simp only [go_sem, ↓reduceIte, Nat.reduceEqDiff, Nat.reduceLT, Nat.reduceLeDiff, Nat.reduceAdd, Nat.reduceMul, Nat.reduceSub, Nat.reduceDiv, Nat.reduceMod, Int.reduceToNat, Int.reduceLT, Int.reduceLE, Int.reduceAdd, Int.reduceSub, Int.reduceMul, Int.reduceEq, Int.reduceNeg, reduceCtorEq, or_false, false_or, decide_true, decide_false, Int.cast_ofNat_Int, Nat.zero_add, Nat.add_zero, Int.toNat_natCast, Option.isNone_none, Option.isNone_some, Bool.not_true, Bool.not_false, Bool.xor_true, Bool.xor_false, Bool.true_xor, Bool.false_xor, decide_true, decide_false, Bool.and_true, Bool.true_and, Bool.and_false, Bool.false_and, eq_self, ne_eq, not_false_eq_true, not_true_eq_false, true_and, and_true, and_self]) (fun _ _ => ?_)
    simp only [go_sem, ↓reduceIte, Nat.reduceEqDiff, Nat.reduceLT, Nat.reduceLeDiff, Nat.reduceAdd, Nat.reduceMul, Nat.reduceSub, Nat.reduceDiv, Nat.reduceMod, Int.reduceToNat, Int.reduceLT, Int.reduceLE, Int.reduceAdd, Int.reduceSub, Int.reduceMul, Int.reduceEq, Int.reduceNeg, reduceCtorEq, or_false, false_or, decide_true, decide_false, Int.cast_ofNat_Int, Nat.zero_add, Nat.add_zero, Int.toNat_natCast, Option.isNone_none, Option.isNone_some, Bool.not_true, Bool.not_false, Bool.xor_true, Bool.xor_false, Bool.true_xor, Bool.false_xor, decide_true, decide_false, Bool.and_true, Bool.true_and, Bool.and_false, Bool.false_and, eq_self, ne_eq, not_false_eq_true, not_true_eq_false, true_and, and_true, and_self]
    by_cases hl0 : l.length = 0
    · have hn : l = [] := by simpa using hl0
      subst hn
      refine sappend_k0 rfl rfl tkind61 tsz52 (by omega) (by omega) ⟨(by show 7 < 8; decide), ?_⟩
      simp only [go_sem, ↓reduceIte, Nat.reduceEqDiff, Nat.reduceLT, Nat.reduceLeDiff, Nat.reduceAdd, Nat.reduceMul, Nat.reduceSub, Nat.reduceDiv, Nat.reduceMod, Int.reduceToNat, Int.reduceLT, Int.reduceLE, Int.reduceAdd, Int.reduceSub, Int.reduceMul, Int.reduceEq, Int.reduceNeg, reduceCtorEq, or_false, false_or, decide_true, decide_false, Int.cast_ofNat_Int, Nat.zero_add, Nat.add_zero, Int.toNat_natCast, Option.isNone_none, Option.isNone_some, Bool.not_true, Bool.not_false, Bool.xor_true, Bool.xor_false, Bool.true_xor, Bool.false_xor, decide_true, decide_false, Bool.and_true, Bool.true_and, Bool.and_false, Bool.false_and, eq_self, ne_eq, not_false_eq_true, not_true_eq_false, true_and, and_true, and_self]
      refine fun ρ' a w' hs' hag => ⟨some ((ρ' 2).blk, 0), ?_, newRows_of rfl rfl hs' rfl (fun j hj => by simp at hj) (Nat.zero_le _) ?_, on_same rfl rfl (hs'.sub (hp' := [(0, .cells 113 [.s 1 0 0 c]), (1, .rows 52 6 0 c fun j => (vrow [] j).map .v)]) ⟨rfl, rfl, trivial⟩ (by simp)) hag hh rfl hsh0 hg hb⟩
      · simp [SV.den, CV.den, slq, (hs'.now.hp _ _ (mem_hget (n := 2) rfl)).1]
      · have hnd := hs'.now.nodup
        have hf := hh.1.1
        simp only [footL, Blk.foot, hag 0 Nat.zero_lt_two, hag 1 Nat.one_lt_two] at hnd hf
        rw [← hf]
        exact (List.nodup_cons.1 hnd).1
    have hone : ∀ q, q < l.length → ((vrow l (0 + q)).map CV.v).all one1 = true := fun q hq => vrow_c (by omega)
    refine sappend rfl rfl tkind61 tsz52 tby52 tz52 rfl rfl ⟨⟨rfl, by decide, by omega, Nat.le_refl _⟩, by omega, by omega, by omega⟩ hone ?_
    refine ⟨(by show 7 < 8; decide), fun c' hc' => ?_⟩
    simp only [go_sem, ↓reduceIte, Nat.reduceEqDiff, Nat.reduceLT, Nat.reduceLeDiff, Nat.reduceAdd, Nat.reduceMul, Nat.reduceSub, Nat.reduceDiv, Nat.reduceMod, Int.reduceToNat, Int.reduceLT, Int.reduceLE, Int.reduceAdd, Int.reduceSub, Int.reduceMul, Int.reduceEq, Int.reduceNeg, reduceCtorEq, or_false, false_or, decide_true, decide_false, Int.cast_ofNat_Int, Nat.zero_add, Nat.add_zero, Int.toNat_natCast, Option.isNone_none, Option.isNone_some, Bool.not_true, Bool.not_false, Bool.xor_true, Bool.xor_false, Bool.true_xor, Bool.false_xor, decide_true, decide_false, Bool.and_true, Bool.true_and, Bool.and_false, Bool.false_and, eq_self, ne_eq, not_false_eq_true, not_true_eq_false, true_and, and_true, and_self]
    refine fun ρ' a w' hs' hag => ⟨some ((ρ' 3).blk, c'), ?_, newRows_of rfl rfl hs' rfl (fun j hj => by simp [rapp]) (by omega) ?_, on_same rfl rfl (hs'.sub (hp' := [(0, .cells 113 [.s 1 0 l.length c]), (1, .rows 52 6 l.length c fun j => (vrow l j).map .v)]) ⟨rfl, rfl, trivial⟩ (by simp)) hag hh rfl hsh0 hg hb⟩
    · simp [SV.den, CV.den, slq, (hs'.now.hp _ _ (mem_hget (n := 3) rfl)).1]
    · have hnd := hs'.now.nodup
      have hf := hh.1.1
      simp only [footL, Blk.foot, hag 0 Nat.zero_lt_two, hag 1 Nat.one_lt_two] at hnd hf
      rw [← hf]
      exact (List.nodup_cons.1 hnd).1

def flt (p : Ver → Bool) (l : List Ver) (k : Nat) : List Ver := (l.take k).filter fun x => !p x
theorem flt_s {p : Ver → Bool} {l : List Ver} {k : Nat} {x : Ver} (h : l[k]? = some x) : flt p l (k + 1) = if p x then flt p l k else flt p l k ++ [x] := by
  unfold flt
  obtain ⟨h1, rfl⟩ := List.getElem?_eq_some_iff.1 h
  rw [List.take_add_one, List.getElem?_eq_getElem h1, Option.toList_some, List.filter_append]
  cases hp : p l[k] <;> simp [hp]
theorem flt_all {p : Ver → Bool} {l : List Ver} : ∀ {k : Nat}, (∀ q, q < k → ∀ x, l[q]? = some x → p x = false) → k ≤ l.length → flt p l k = l.take k
  | 0, _, _ => by simp [flt]
  | k + 1, h, hk => by
    rw [flt_s (List.getElem?_eq_getElem (by omega)), if_neg (by rw [h k (by omega) _ (List.getElem?_eq_getElem (by omega))]; simp), flt_all (fun q hq => h q (by omega)) (by omega), List.take_add_one, List.getElem?_eq_getElem (by omega)]; rfl
theorem flt_end {p : Ver → Bool} {l : List Ver} : flt p l l.length = l.filter fun x => !p x := by unfold flt; rw [List.take_length]
theorem flt_le {p : Ver → Bool} {l : List Ver} (k : Nat) : (flt p l k).length ≤ k := by
  unfold flt
  exact Nat.le_trans (List.length_filter_le _ _) (List.length_take_le _ _)
theorem vrow_app {l : List Ver} {x : Ver} {j : Nat} (h : j < l.length) : vrow (l ++ [x]) j = vrow l j := by
  unfold vrow; rw [List.getElem?_append_left h]
theorem vrow_last {l : List Ver} {x : Ver} : vrow (l ++ [x]) l.length = x.l := by
  unfold vrow; simp
def bst (l : List Ver) (h : V4) : Ver := (rdL l fun x => x.st.seen h).getD ver0
def del (l : List Ver) (h : V4) (x : Ver) : Bool := x.st.seen h && decide (x.st ≠ (bst l h).st)
def prn (l : List Ver) (h : V4) : List Ver := l.filter fun x => !del l h x
theorem prune1_s {C : Cx} {fr : List (Nat × SV)} {hp : List (Nat × Blk)} {nx : Nat} {d : Option Tmp} {K : St → Prop} {l : List Ver} {h : V4} (x : Ver) {n m : Nat}
    (h2 : hget hp n = some (.cells 32 [cu h.a, cu h.b, cu h.c, cu h.d])) (h5 : hget hp m = some (.cells 52 (bst l h).c))
    (hK : dOk C.N d ∧ kput K ⟨fr, hp, nx⟩ d (.c (.v (.bool (del l h x))))) : SCall Try.prog C 53 [.agg x.c, .c (.p n 0 0), .c (.p m 0 0)] d K ⟨fr, hp, nx⟩ := by
  refine scall_keep (.c (.v (.bool (del l h x)))) Try.call53 (fun ρ w a hs => ?_) (by simp [SV.okL, SV.ok, Ver.c]) (fun ρ ρ' _ => rfl) hK
  have hr : Below w.heap.size w w := ⟨rfl, rfl, rfl, Nat.le_refl _, fun _ _ => rfl⟩
  obtain ⟨k0, k1⟩ := imm_box (hs.now.hp _ _ (mem_hget h2)) hr [vu h.a, vu h.b, vu h.c, vu h.d] rfl
  obtain ⟨k2, k3⟩ := imm_box (hs.now.hp _ _ (mem_hget h5)) hr (bst l h).l rfl
  have := prune1_c w _ _ h (bst l h) x k1 k3
  simpa [SV.denL, SV.den, CV.den, CV.denL, k0, k2, del, Ver.val, Ver.l, Ver.c] using this
set_option maxHeartbeats 2000000 in
theorem cprune_c (g : Nat) (l : List Ver) (hl : l.length ≤ 100000) (h : V4) (fp : List Nat) (w : World) (ho : On g (CSh l) fp w) :
    Calls Try.prog 15 #[gptr g, h.v] w (Turn g fp (.int .i64 ((l.length : Int) - (prn l h).length)) (CSh (prn l h)) w) := by
  refine on_calls ho 35 _ Try.func15 rfl Try.ntmps15 Try.results15 [.c (.p 0 0 0), sv4 h.a h.b h.c h.d] (by simp) (fun ρ' h1 h2 => by simp [SV.denL, SV.den, CV.den, CV.denL, gptr, h1, h2]) (fun ρ nx hp hsh hg hb => ?_)
  rcases hsh with ⟨hn, rfl, rfl⟩ | ⟨c, ⟨hc, hc0⟩, rfl, rfl⟩
  · have hl0 : l.length = 0 := by rw [hn]; rfl
    simp only [go_sem, ↓reduceIte, Nat.reduceEqDiff, Nat.reduceLT, Nat.reduceLeDiff, Nat.reduceAdd, Nat.reduceMul, Nat.reduceSub, Nat.reduceDiv, Nat.reduceMod, Int.reduceToNat, Int.reduceLT, Int.reduceLE, Int.reduceAdd, Int.reduceSub, Int.reduceMul, Int.reduceEq, Int.reduceNeg, reduceCtorEq, or_false, false_or, decide_true, decide_false, Int.cast_ofNat_Int, Nat.zero_add, Nat.add_zero, Int.toNat_natCast, Option.isNone_none, Option.isNone_some, Bool.not_true, Bool.not_false, Bool.xor_true, Bool.xor_false, Bool.true_xor, Bool.false_xor, decide_true, decide_false, Bool.and_true, Bool.true_and, Bool.and_false, Bool.false_and, eq_self, ne_eq, not_false_eq_true, not_true_eq_false, true_and, and_true, and_self]
    refine scall_in 11 _ Try.func20 rfl Try.ntmps20 Try.results20 Try.call20 (by simp only [go_sem, ↓reduceIte, Nat.reduceEqDiff, Nat.reduceLT, Nat.reduceLeDiff, Nat.reduceAdd, Nat.reduceMul, Nat.reduceSub, Nat.reduceDiv, Nat.reduceMod, Int.reduceToNat, Int.reduceLT, Int.reduceLE, Int.reduceAdd, Int.reduceSub, Int.reduceMul, Int.reduceEq, Int.reduceNeg, reduceCtorEq, or_false, false_or, decide_true, decide_false, Int.cast_ofNat_Int, Nat.zero_add, Nat.add_zero, Int.toNat_natCast, Option.isNone_none, Option.isNone_some, Bool.not_true, Bool.not_false, Bool.xor_true, Bool.xor_false, Bool.true_xor, Bool.false_xor, decide_true, decide_false, Bool.and_true, Bool.true_and, Bool.and_false, Bool.false_and, eq_self, ne_eq, not_false_eq_true, not_true_eq_false, true_and, and_true, and_self]) (fun _ _ => ?_)
    simp only [go_sem, ↓reduceIte, Nat.reduceEqDiff, Nat.reduceLT, Nat.reduceLeDiff, Nat.reduceAdd, Nat.reduceMul, Nat.reduceSub, Nat.reduceDiv, Nat.reduceMod, Int.reduceToNat, Int.reduceLT, Int.reduceLE, Int.reduceAdd, Int.reduceSub, Int.reduceMul, Int.reduceEq, Int.reduceNeg, reduceCtorEq, or_false, false_or, decide_true, decide_false, Int.cast_ofNat_Int, Nat.zero_add, Nat.add_zero, Int.toNat_natCast, Option.isNone_none, Option.isNone_some, Bool.not_true, Bool.not_false, Bool.xor_true, Bool.xor_false, Bool.true_xor, Bool.false_xor, decide_true, decide_false, Bool.and_true, Bool.true_and, Bool.and_false, Bool.false_and, eq_self, ne_eq, not_false_eq_true, not_true_eq_false, true_and, and_true, and_self]
    refine last_s l (by omega) (.inl ⟨rfl, hn⟩) 61 _ (fun x => x.st.seen h) Try.call61 (fun ρ w a hs x W hW => ?_) ?_
    · obtain ⟨k0, k1⟩ := imm_box (hs.now.hp _ _ (mem_hget (n := 2) rfl)) hW [vu h.a, vu h.b, vu h.c, vu h.d] rfl
      have := read1_c W _ h x k1
      simpa [CV.denL, CV.den, k0] using this
    rw [show (rdL l fun x => x.st.seen h).getD ver0 = bst l h from rfl]
    simp only [go_sem, ↓reduceIte, Nat.reduceEqDiff, Nat.reduceLT, Nat.reduceLeDiff, Nat.reduceAdd, Nat.reduceMul, Nat.reduceSub, Nat.reduceDiv, Nat.reduceMod, Int.reduceToNat, Int.reduceLT, Int.reduceLE, Int.reduceAdd, Int.reduceSub, Int.reduceMul, Int.reduceEq, Int.reduceNeg, reduceCtorEq, or_false, false_or, decide_true, decide_false, Int.cast_ofNat_Int, Nat.zero_add, Nat.add_zero, Int.toNat_natCast, Option.isNone_none, Option.isNone_some, Bool.not_true, Bool.not_false, Bool.xor_true, Bool.xor_false, Bool.true_xor, Bool.false_xor, decide_true, decide_false, Bool.and_true, Bool.true_and, Bool.and_false, Bool.false_and, eq_self, ne_eq, not_false_eq_true, not_true_eq_false, true_and, and_true, and_self, Ver.s, Ver.c]
    refine scall_in 42 _ Try.func52 rfl Try.ntmps52 Try.results52 Try.call52 (by simp only [go_sem, ↓reduceIte, Nat.reduceEqDiff, Nat.reduceLT, Nat.reduceLeDiff, Nat.reduceAdd, Nat.reduceMul, Nat.reduceSub, Nat.reduceDiv, Nat.reduceMod, Int.reduceToNat, Int.reduceLT, Int.reduceLE, Int.reduceAdd, Int.reduceSub, Int.reduceMul, Int.reduceEq, Int.reduceNeg, reduceCtorEq, or_false, false_or, decide_true, decide_false, Int.cast_ofNat_Int, Nat.zero_add, Nat.add_zero, Int.toNat_natCast, Option.isNone_none, Option.isNone_some, Bool.not_true, Bool.not_false, Bool.xor_true, Bool.xor_false, Bool.true_xor, Bool.false_xor, decide_true, decide_false, Bool.and_true, Bool.true_and, Bool.and_false, Bool.false_and, eq_self, ne_eq, not_false_eq_true, not_true_eq_false, true_and, and_true, and_self]) (fun _ _ => ?_)
    simp only [go_sem, ↓reduceIte, Nat.reduceEqDiff, Nat.reduceLT, Nat.reduceLeDiff, Nat.reduceAdd, Nat.reduceMul, Nat.reduceSub, Nat.reduceDiv, Nat.reduceMod, Int.reduceToNat, Int.reduceLT, Int.reduceLE, Int.reduceAdd, Int.reduceSub, Int.reduceMul, Int.reduceEq, Int.reduceNeg, reduceCtorEq, or_false, false_or, decide_true, decide_false, Int.cast_ofNat_Int, Nat.zero_add, Nat.add_zero, Int.toNat_natCast, Option.isNone_none, Option.isNone_some, Bool.not_true, Bool.not_false, Bool.xor_true, Bool.xor_false, Bool.true_xor, Bool.false_xor, decide_true, decide_false, Bool.and_true, Bool.true_and, Bool.and_false, Bool.false_and, eq_self, ne_eq, not_false_eq_true, not_true_eq_false, true_and, and_true, and_self]
    refine scall_in 19 _ Try.func94 rfl Try.ntmps94 Try.results94 Try.call94 (by simp only [go_sem, ↓reduceIte, Nat.reduceEqDiff, Nat.reduceLT, Nat.reduceLeDiff, Nat.reduceAdd, Nat.reduceMul, Nat.reduceSub, Nat.reduceDiv, Nat.reduceMod, Int.reduceToNat, Int.reduceLT, Int.reduceLE, Int.reduceAdd, Int.reduceSub, Int.reduceMul, Int.reduceEq, Int.reduceNeg, reduceCtorEq, or_false, false_or, decide_true, decide_false, Int.cast_ofNat_Int, Nat.zero_add, Nat.add_zero, Int.toNat_natCast, Option.isNone_none, Option.isNone_some, Bool.not_true, Bool.not_false, Bool.xor_true, Bool.xor_false, Bool.true_xor, Bool.false_xor, decide_true, decide_false, Bool.and_true, Bool.true_and, Bool.and_false, Bool.false_and, eq_self, ne_eq, not_false_eq_true, not_true_eq_false, true_and, and_true, and_self]) (fun _ _ => ?_)
    simp only [go_sem, ↓reduceIte, Nat.reduceEqDiff, Nat.reduceLT, Nat.reduceLeDiff, Nat.reduceAdd, Nat.reduceMul, Nat.reduceSub, Nat.reduceDiv, Nat.reduceMod, Int.reduceToNat, Int.reduceLT, Int.reduceLE, Int.reduceAdd, Int.reduceSub, Int.reduceMul, Int.reduceEq, Int.reduceNeg, reduceCtorEq, or_false, false_or, decide_true, decide_false, Int.cast_ofNat_Int, Nat.zero_add, Nat.add_zero, Int.toNat_natCast, Option.isNone_none, Option.isNone_some, Bool.not_true, Bool.not_false, Bool.xor_true, Bool.xor_false, Bool.true_xor, Bool.false_xor, decide_true, decide_false, Bool.and_true, Bool.true_and, Bool.and_false, Bool.false_and, eq_self, ne_eq, not_false_eq_true, not_true_eq_false, true_and, and_true, and_self]
    refine sloop (fun _ : Unit => ⟨[(7, .c (.v (.int .i64 0))), (8, .c (.v (.int .i64 0)))], [(0, .cells 113 [.v (.slice none 0 0)])], 5⟩) (fun _ => True) (fun _ => 0) () trivial (ent_drop ⟨rfl, rfl, trivial⟩ ⟨rfl, trivial⟩ (by simp)) (fun _ _ => ?_)
    simp only [go_sem, ↓reduceIte, Nat.reduceEqDiff, Nat.reduceLT, Nat.reduceLeDiff, Nat.reduceAdd, Nat.reduceMul, Nat.reduceSub, Nat.reduceDiv, Nat.reduceMod, Int.reduceToNat, Int.reduceLT, Int.reduceLE, Int.reduceAdd, Int.reduceSub, Int.reduceMul, Int.reduceEq, Int.reduceNeg, reduceCtorEq, or_false, false_or, decide_true, decide_false, Int.cast_ofNat_Int, Nat.zero_add, Nat.add_zero, Int.toNat_natCast, Option.isNone_none, Option.isNone_some, Bool.not_true, Bool.not_false, Bool.xor_true, Bool.xor_false, Bool.true_xor, Bool.false_xor, decide_true, decide_false, Bool.and_true, Bool.true_and, Bool.and_false, Bool.false_and, eq_self, ne_eq, not_false_eq_true, not_true_eq_false, true_and, and_true, and_self]
    refine fun ρ' a w' hs' hag => ?_
    have hp0 : prn l h = [] := by rw [hn]; rfl
    obtain ⟨fp', hon, hch⟩ := ch_end0 (l := prn l h) rfl rfl hs' ((congrArg Nm.blk (hag 0 Nat.zero_lt_one)).trans hg) ((congrArg Nm.base (hag 0 Nat.zero_lt_one)).trans hb) rfl hp0
    exact ⟨fp', by rw [hp0, hl0]; rfl, hon, hch⟩
  · simp only [go_sem, ↓reduceIte, Nat.reduceEqDiff, Nat.reduceLT, Nat.reduceLeDiff, Nat.reduceAdd, Nat.reduceMul, Nat.reduceSub, Nat.reduceDiv, Nat.reduceMod, Int.reduceToNat, Int.reduceLT, Int.reduceLE, Int.reduceAdd, Int.reduceSub, Int.reduceMul, Int.reduceEq, Int.reduceNeg, reduceCtorEq, or_false, false_or, decide_true, decide_false, Int.cast_ofNat_Int, Nat.zero_add, Nat.add_zero, Int.toNat_natCast, Option.isNone_none, Option.isNone_some, Bool.not_true, Bool.not_false, Bool.xor_true, Bool.xor_false, Bool.true_xor, Bool.false_xor, decide_true, decide_false, Bool.and_true, Bool.true_and, Bool.and_false, Bool.false_and, eq_self, ne_eq, not_false_eq_true, not_true_eq_false, true_and, and_true, and_self]
    refine scall_in 11 _ Try.func20 rfl Try.ntmps20 Try.results20 Try.call20 (by simp only [go_sem, ↓reduceIte, Nat.reduceEqDiff, Nat.reduceLT, Nat.reduceLeDiff, Nat.reduceAdd, Nat.reduceMul, Nat.reduceSub, Nat.reduceDiv, Nat.reduceMod, Int.reduceToNat, Int.reduceLT, Int.reduceLE, Int.reduceAdd, Int.reduceSub, Int.reduceMul, Int.reduceEq, Int.reduceNeg, reduceCtorEq, or_false, false_or, decide_true, decide_false, Int.cast_ofNat_Int, Nat.zero_add, Nat.add_zero, Int.toNat_natCast, Option.isNone_none, Option.isNone_some, Bool.not_true, Bool.not_false, Bool.xor_true, Bool.xor_false, Bool.true_xor, Bool.false_xor, decide_true, decide_false, Bool.and_true, Bool.true_and, Bool.and_false, Bool.false_and, eq_self, ne_eq, not_false_eq_true, not_true_eq_false, true_and, and_true, and_self]) (fun _ _ => ?_)
    simp only [go_sem, ↓reduceIte, Nat.reduceEqDiff, Nat.reduceLT, Nat.reduceLeDiff, Nat.reduceAdd, Nat.reduceMul, Nat.reduceSub, Nat.reduceDiv, Nat.reduceMod, Int.reduceToNat, Int.reduceLT, Int.reduceLE, Int.reduceAdd, Int.reduceSub, Int.reduceMul, Int.reduceEq, Int.reduceNeg, reduceCtorEq, or_false, false_or, decide_true, decide_false, Int.cast_ofNat_Int, Nat.zero_add, Nat.add_zero, Int.toNat_natCast, Option.isNone_none, Option.isNone_some, Bool.not_true, Bool.not_false, Bool.xor_true, Bool.xor_false, Bool.true_xor, Bool.false_xor, decide_true, decide_false, Bool.and_true, Bool.true_and, Bool.and_false, Bool.false_and, eq_self, ne_eq, not_false_eq_true, not_true_eq_false, true_and, and_true, and_self]
    refine last_s l (by omega) (.inr ⟨_, _, rfl, rfl⟩) 61 _ (fun x => x.st.seen h) Try.call61 (fun ρ w a hs x W hW => ?_) ?_
    · obtain ⟨k0, k1⟩ := imm_box (hs.now.hp _ _ (mem_hget (n := 3) rfl)) hW [vu h.a, vu h.b, vu h.c, vu h.d] rfl
      have := read1_c W _ h x k1
      simpa [CV.denL, CV.den, k0] using this
    rw [show (rdL l fun x => x.st.seen h).getD ver0 = bst l h from rfl]
    simp only [go_sem, ↓reduceIte, Nat.reduceEqDiff, Nat.reduceLT, Nat.reduceLeDiff, Nat.reduceAdd, Nat.reduceMul, Nat.reduceSub, Nat.reduceDiv, Nat.reduceMod, Int.reduceToNat, Int.reduceLT, Int.reduceLE, Int.reduceAdd, Int.reduceSub, Int.reduceMul, Int.reduceEq, Int.reduceNeg, reduceCtorEq, or_false, false_or, decide_true, decide_false, Int.cast_ofNat_Int, Nat.zero_add, Nat.add_zero, Int.toNat_natCast, Option.isNone_none, Option.isNone_some, Bool.not_true, Bool.not_false, Bool.xor_true, Bool.xor_false, Bool.true_xor, Bool.false_xor, decide_true, decide_false, Bool.and_true, Bool.true_and, Bool.and_false, Bool.false_and, eq_self, ne_eq, not_false_eq_true, not_true_eq_false, true_and, and_true, and_self, Ver.s, Ver.c]
    refine scall_in 42 _ Try.func52 rfl Try.ntmps52 Try.results52 Try.call52 (by simp only [go_sem, ↓reduceIte, Nat.reduceEqDiff, Nat.reduceLT, Nat.reduceLeDiff, Nat.reduceAdd, Nat.reduceMul, Nat.reduceSub, Nat.reduceDiv, Nat.reduceMod, Int.reduceToNat, Int.reduceLT, Int.reduceLE, Int.reduceAdd, Int.reduceSub, Int.reduceMul, Int.reduceEq, Int.reduceNeg, reduceCtorEq, or_false, false_or, decide_true, decide_false, Int.cast_ofNat_Int, Nat.zero_add, Nat.add_zero, Int.toNat_natCast, Option.isNone_none, Option.isNone_some, Bool.not_true, Bool.not_false, Bool.xor_true, Bool.xor_false, Bool.true_xor, Bool.false_xor, decide_true, decide_false, Bool.and_true, Bool.true_and, Bool.and_false, Bool.false_and, eq_self, ne_eq, not_false_eq_true, not_true_eq_false, true_and, and_true, and_self]) (fun _ _ => ?_)
    simp only [go_sem, ↓reduceIte, Nat.reduceEqDiff, Nat.reduceLT, Nat.reduceLeDiff, Nat.reduceAdd, Nat.reduceMul, Nat.reduceSub, Nat.reduceDiv, Nat.reduceMod, Int.reduceToNat, Int.reduceLT, Int.reduceLE, Int.reduceAdd, Int.reduceSub, Int.reduceMul, Int.reduceEq, Int.reduceNeg, reduceCtorEq, or_false, false_or, decide_true, decide_false, Int.cast_ofNat_Int, Nat.zero_add, Nat.add_zero, Int.toNat_natCast, Option.isNone_none, Option.isNone_some, Bool.not_true, Bool.not_false, Bool.xor_true, Bool.xor_false, Bool.true_xor, Bool.false_xor, decide_true, decide_false, Bool.and_true, Bool.true_and, Bool.and_false, Bool.false_and, eq_self, ne_eq, not_false_eq_true, not_true_eq_false, true_and, and_true, and_self]
    refine scall_in 19 _ Try.func94 rfl Try.ntmps94 Try.results94 Try.call94 (by simp only [go_sem, ↓reduceIte, Nat.reduceEqDiff, Nat.reduceLT, Nat.reduceLeDiff, Nat.reduceAdd, Nat.reduceMul, Nat.reduceSub, Nat.reduceDiv, Nat.reduceMod, Int.reduceToNat, Int.reduceLT, Int.reduceLE, Int.reduceAdd, Int.reduceSub, Int.reduceMul, Int.reduceEq, Int.reduceNeg, reduceCtorEq, or_false, false_or, decide_true, decide_false, Int.cast_ofNat_Int, Nat.zero_add, Nat.add_zero, Int.toNat_natCast, Option.isNone_none, Option.isNone_some, Bool.not_true, Bool.not_false, Bool.xor_true, Bool.xor_false, Bool.true_xor, Bool.false_xor, decide_true, decide_false, Bool.and_true, Bool.true_and, Bool.and_false, Bool.false_and, eq_self, ne_eq, not_false_eq_true, not_true_eq_false, true_and, and_true, and_self]) (fun _ _ => ?_)
    simp only [go_sem, ↓reduceIte, Nat.reduceEqDiff, Nat.reduceLT, Nat.reduceLeDiff, Nat.reduceAdd, Nat.reduceMul, Nat.reduceSub, Nat.reduceDiv, Nat.reduceMod, Int.reduceToNat, Int.reduceLT, Int.reduceLE, Int.reduceAdd, Int.reduceSub, Int.reduceMul, Int.reduceEq, Int.reduceNeg, reduceCtorEq, or_false, false_or, decide_true, decide_false, Int.cast_ofNat_Int, Nat.zero_add, Nat.add_zero, Int.toNat_natCast, Option.isNone_none, Option.isNone_some, Bool.not_true, Bool.not_false, Bool.xor_true, Bool.xor_false, Bool.true_xor, Bool.false_xor, decide_true, decide_false, Bool.and_true, Bool.true_and, Bool.and_false, Bool.false_and, eq_self, ne_eq, not_false_eq_true, not_true_eq_false, true_and, and_true, and_self]
    refine sloop (fun i : Nat => ⟨[(0, .c (.s 1 0 l.length c)), (1, .c (.fn 53 [.p 2 0 0, .p 5 0 0])), (7, .c (.v (.int .i64 l.length))), (8, .c (.v (.int .i64 i)))], [(0, .cells 113 [.s 1 0 l.length c]), (1, .rows 52 6 l.length c fun j => (vrow l j).map .v), (2, .cells 32 [cu h.a, cu h.b, cu h.c, cu h.d]), (5, .cells 52 (bst l h).c)], 6⟩) (fun i => i ≤ l.length ∧ ∀ q, q < i → ∀ x, l[q]? = some x → del l h x = false) (fun i => l.length - i) 0
      ⟨by omega, fun q hq => by omega⟩ (ent_drop ⟨rfl, rfl, rfl, rfl, trivial⟩ ⟨rfl, rfl, rfl, rfl, trivial⟩ (by simp)) (fun i hi => ?_)
    obtain ⟨hi, hnone⟩ : i ≤ l.length ∧ ∀ q, q < i → ∀ x, l[q]? = some x → del l h x = false := hi
    by_cases hil : i < l.length
    · obtain ⟨x, hx⟩ : ∃ x, l[i]? = some x := ⟨_, List.getElem?_eq_getElem hil⟩
      have hrow := vrow_eq hx
      simp (disch := omega) only [go_sem, ↓reduceIte, Nat.reduceEqDiff, Nat.reduceLT, Nat.reduceLeDiff, Nat.reduceAdd, Nat.reduceMul, Nat.reduceSub, Nat.reduceDiv, Nat.reduceMod, Int.reduceToNat, Int.reduceLT, Int.reduceLE, Int.reduceAdd, Int.reduceSub, Int.reduceMul, Int.reduceEq, Int.reduceNeg, reduceCtorEq, or_false, false_or, decide_true, decide_false, Int.cast_ofNat_Int, Nat.zero_add, Nat.add_zero, Int.toNat_natCast, Option.isNone_none, Option.isNone_some, Bool.not_true, Bool.not_false, Bool.xor_true, Bool.xor_false, Bool.true_xor, Bool.false_xor, decide_true, decide_false, Bool.and_true, Bool.true_and, Bool.and_false, Bool.false_and, eq_self, ne_eq, not_false_eq_true, not_true_eq_false, true_and, and_true, and_self, wrapI64, wrapu64, wrapu32, wrapu8, ltT, ltF, leT, leF, eqF, eqT, nltT, nleT, neqFn, hrow]
      refine prune1_s x rfl rfl ?_
      cases hd : del l h x
      · simp (disch := omega) only [go_sem, ↓reduceIte, Nat.reduceEqDiff, Nat.reduceLT, Nat.reduceLeDiff, Nat.reduceAdd, Nat.reduceMul, Nat.reduceSub, Nat.reduceDiv, Nat.reduceMod, Int.reduceToNat, Int.reduceLT, Int.reduceLE, Int.reduceAdd, Int.reduceSub, Int.reduceMul, Int.reduceEq, Int.reduceNeg, reduceCtorEq, or_false, false_or, decide_true, decide_false, Int.cast_ofNat_Int, Nat.zero_add, Nat.add_zero, Int.toNat_natCast, Option.isNone_none, Option.isNone_some, Bool.not_true, Bool.not_false, Bool.xor_true, Bool.xor_false, Bool.true_xor, Bool.false_xor, decide_true, decide_false, Bool.and_true, Bool.true_and, Bool.and_false, Bool.false_and, eq_self, ne_eq, not_false_eq_true, not_true_eq_false, true_and, and_true, and_self, wrapI64, wrapu64, wrapu32, wrapu8, ltT, ltF, leT, leF, eqF, eqT, nltT, nleT, neqFn]
        refine ⟨i + 1, ⟨hil, fun q hq y hy => ?_⟩, by omega, ent_drop ⟨rfl, rfl, rfl, rfl, trivial⟩ ⟨rfl, rfl, rfl, rfl, trivial⟩ (by simp)⟩
        rcases Nat.lt_or_ge q i with hqi | hqi
        · exact hnone q hqi y hy
        · have : q = i := by omega
          rw [this, hx] at hy; injection hy with hy; rw [← hy]; exact hd
      · have hf0 : flt (del l h) l (i + 1) = l.take i := by rw [flt_s hx, if_pos hd, flt_all hnone hi]
        have hf1 : (flt (del l h) l (i + 1)).length = i := by rw [hf0, List.length_take]; omega
        simp (disch := omega) only [go_sem, ↓reduceIte, Nat.reduceEqDiff, Nat.reduceLT, Nat.reduceLeDiff, Nat.reduceAdd, Nat.reduceMul, Nat.reduceSub, Nat.reduceDiv, Nat.reduceMod, Int.reduceToNat, Int.reduceLT, Int.reduceLE, Int.reduceAdd, Int.reduceSub, Int.reduceMul, Int.reduceEq, Int.reduceNeg, reduceCtorEq, or_false, false_or, decide_true, decide_false, Int.cast_ofNat_Int, Nat.zero_add, Nat.add_zero, Int.toNat_natCast, Option.isNone_none, Option.isNone_some, Bool.not_true, Bool.not_false, Bool.xor_true, Bool.xor_false, Bool.true_xor, Bool.false_xor, decide_true, decide_false, Bool.and_true, Bool.true_and, Bool.and_false, Bool.false_and, eq_self, ne_eq, not_false_eq_true, not_true_eq_false, true_and, and_true, and_self, wrapI64, wrapu64, wrapu32, wrapu8, ltT, ltF, leT, leF, eqF, eqT, nltT, nleT, neqFn]
        refine sloop (fun p : Nat × Nat × (Nat → List CV) => ⟨[(0, .c (.s 1 0 l.length c)), (1, .c (.fn 53 [.p 2 0 0, .p 5 0 0])), (5, .c (.v (.int .i64 (p.1 : Nat)))), (6, .c (.v (.int .i64 (p.2.1 : Nat))))], [(0, .cells 113 [.s 1 0 l.length c]), (1, .rows 52 6 l.length c p.2.2), (2, .cells 32 [cu h.a, cu h.b, cu h.c, cu h.d]), (5, .cells 52 (bst l h).c)], 6⟩)
          (fun p => (p.1 = (flt (del l h) l p.2.1).length ∧ p.1 < p.2.1 ∧ p.2.1 ≤ l.length ∧ ∀ q, q < l.length → ∃ z : Ver, p.2.2 q = z.c) ∧ (∀ q, q < p.1 → p.2.2 q = (vrow (flt (del l h) l p.2.1) q).map .v) ∧ ∀ q, p.2.1 ≤ q → q < l.length → p.2.2 q = (vrow l q).map .v) (fun p => l.length - p.2.1) (i, i + 1, fun j => (vrow l j).map .v)
          ⟨⟨hf1.symm, Nat.lt_succ_self _, hil, fun q hq => ⟨_, vrow_eq (List.getElem?_eq_getElem hq)⟩⟩, fun q hq => by
            have hq : q < i := hq
            show _ = (vrow (flt (del l h) l (i + 1)) q).map CV.v
            rw [hf0]; unfold vrow; rw [List.getElem?_take_of_lt hq], fun q _ _ => rfl⟩ (ent_drop ⟨rfl, rfl, rfl, rfl, trivial⟩ ⟨rfl, rfl, rfl, rfl, trivial⟩ (by simp)) (fun p hp => ?_)
        obtain ⟨k, j, r⟩ := p
        obtain ⟨⟨hk, hkj, hj, hr0⟩, hr1, hr2⟩ : (k = (flt (del l h) l j).length ∧ k < j ∧ j ≤ l.length ∧ ∀ q, q < l.length → ∃ z : Ver, r q = z.c) ∧ (∀ q, q < k → r q = (vrow (flt (del l h) l j) q).map .v) ∧ ∀ q, j ≤ q → q < l.length → r q = (vrow l q).map .v := hp
        by_cases hjl : j < l.length
        · obtain ⟨y, hy⟩ : ∃ y, l[j]? = some y := ⟨_, List.getElem?_eq_getElem hjl⟩
          have hrow2 : r j = _ := (hr2 j (Nat.le_refl _) hjl).trans (vrow_eq hy)
          have hfs := flt_s (p := del l h) hy
          simp (disch := omega) only [go_sem, ↓reduceIte, Nat.reduceEqDiff, Nat.reduceLT, Nat.reduceLeDiff, Nat.reduceAdd, Nat.reduceMul, Nat.reduceSub, Nat.reduceDiv, Nat.reduceMod, Int.reduceToNat, Int.reduceLT, Int.reduceLE, Int.reduceAdd, Int.reduceSub, Int.reduceMul, Int.reduceEq, Int.reduceNeg, reduceCtorEq, or_false, false_or, decide_true, decide_false, Int.cast_ofNat_Int, Nat.zero_add, Nat.add_zero, Int.toNat_natCast, Option.isNone_none, Option.isNone_some, Bool.not_true, Bool.not_false, Bool.xor_true, Bool.xor_false, Bool.true_xor, Bool.false_xor, decide_true, decide_false, Bool.and_true, Bool.true_and, Bool.and_false, Bool.false_and, eq_self, ne_eq, not_false_eq_true, not_true_eq_false, true_and, and_true, and_self, wrapI64, wrapu64, wrapu32, wrapu8, ltT, ltF, leT, leF, eqF, eqT, nltT, nleT, neqFn, hrow2]
          refine prune1_s y rfl rfl ?_
          cases hdy : del l h y
          · obtain ⟨z, hz⟩ := hr0 k (by omega)
            have hrow3 : r k = [cu z.st.v.a, cu z.st.v.b, cu z.st.v.c, cu z.st.v.d, ci z.st.dc, .v (Value.string z.x)] := hz
            rw [hdy, if_neg (by simp)] at hfs
            simp (disch := omega) only [go_sem, ↓reduceIte, Nat.reduceEqDiff, Nat.reduceLT, Nat.reduceLeDiff, Nat.reduceAdd, Nat.reduceMul, Nat.reduceSub, Nat.reduceDiv, Nat.reduceMod, Int.reduceToNat, Int.reduceLT, Int.reduceLE, Int.reduceAdd, Int.reduceSub, Int.reduceMul, Int.reduceEq, Int.reduceNeg, reduceCtorEq, or_false, false_or, decide_true, decide_false, Int.cast_ofNat_Int, Nat.zero_add, Nat.add_zero, Int.toNat_natCast, Option.isNone_none, Option.isNone_some, Bool.not_true, Bool.not_false, Bool.xor_true, Bool.xor_false, Bool.true_xor, Bool.false_xor, decide_true, decide_false, Bool.and_true, Bool.true_and, Bool.and_false, Bool.false_and, eq_self, ne_eq, not_false_eq_true, not_true_eq_false, true_and, and_true, and_self, wrapI64, wrapu64, wrapu32, wrapu8, ltT, ltF, leT, leF, eqF, eqT, nltT, nleT, neqFn, hrow3]
            refine ⟨(k + 1, j + 1, rupd r k y.c), ⟨⟨by show k + 1 = (flt (del l h) l (j + 1)).length; rw [hfs, List.length_append, ← hk]; rfl, by show k + 1 < j + 1; omega, hjl, fun q hq => ?_⟩, fun q hq => ?_, fun q hq hq2 => ?_⟩, by show l.length - (j + 1) < l.length - j; omega, ent_low ⟨rfl, rfl, rfl, rfl, trivial⟩ ⟨rfl, rfl, rfl, rfl, trivial⟩ (by simp) (by simp [frBl, SV.bl, CV.bl, CV.blL]) (by
              simp [hpBl, Blk.bl, CV.blL, CV.bl, Ver.c]
              intro q hq
              unfold rupd
              by_cases hqk : q = k
              · rw [if_pos hqk]; simp [Ver.c, CV.blL, CV.bl]
              · rw [if_neg hqk]
                obtain ⟨z, hz⟩ := hr0 q hq
                rw [hz]; simp [Ver.c, CV.blL, CV.bl]) (by show 6 ≤ 6; omega)⟩
            · show ∃ z : Ver, rupd r k y.c q = z.c
              unfold rupd
              by_cases hqk : q = k
              · rw [if_pos hqk]; exact ⟨y, rfl⟩
              · rw [if_neg hqk]; exact hr0 q hq
            · have hq : q < k + 1 := hq
              show rupd r k y.c q = (vrow (flt (del l h) l (j + 1)) q).map CV.v
              rw [hfs]
              unfold rupd
              by_cases hqk : q = k
              · rw [if_pos hqk, hqk, hk, vrow_last]; rfl
              · rw [if_neg hqk, vrow_app (by omega)]; exact hr1 q (by omega)
            · have hq : j + 1 ≤ q := hq
              show rupd r k y.c q = _
              unfold rupd
              rw [if_neg (by omega)]; exact hr2 q (by omega) hq2
          · rw [hdy, if_pos rfl] at hfs
            simp (disch := omega) only [go_sem, ↓reduceIte, Nat.reduceEqDiff, Nat.reduceLT, Nat.reduceLeDiff, Nat.reduceAdd, Nat.reduceMul, Nat.reduceSub, Nat.reduceDiv, Nat.reduceMod, Int.reduceToNat, Int.reduceLT, Int.reduceLE, Int.reduceAdd, Int.reduceSub, Int.reduceMul, Int.reduceEq, Int.reduceNeg, reduceCtorEq, or_false, false_or, decide_true, decide_false, Int.cast_ofNat_Int, Nat.zero_add, Nat.add_zero, Int.toNat_natCast, Option.isNone_none, Option.isNone_some, Bool.not_true, Bool.not_false, Bool.xor_true, Bool.xor_false, Bool.true_xor, Bool.false_xor, decide_true, decide_false, Bool.and_true, Bool.true_and, Bool.and_false, Bool.false_and, eq_self, ne_eq, not_false_eq_true, not_true_eq_false, true_and, and_true, and_self, wrapI64, wrapu64, wrapu32, wrapu8, ltT, ltF, leT, leF, eqF, eqT, nltT, nleT, neqFn]
            refine ⟨(k, j + 1, r), ⟨⟨by show k = (flt (del l h) l (j + 1)).length; rw [hfs]; exact hk, by show k < j + 1; omega, hjl, hr0⟩, fun q hq => by
              show r q = (vrow (flt (del l h) l (j + 1)) q).map CV.v
              rw [hfs]; exact hr1 q hq, fun q hq => hr2 q (by have hq : j + 1 ≤ q := hq; omega)⟩, by show l.length - (j + 1) < l.length - j; omega, ent_low ⟨rfl, rfl, rfl, rfl, trivial⟩ ⟨rfl, rfl, rfl, rfl, trivial⟩ (by simp) (by simp [frBl, SV.bl, CV.bl, CV.blL]) (by
              simp [hpBl, Blk.bl, CV.blL, CV.bl, Ver.c]
              intro q hq
              obtain ⟨z, hz⟩ := hr0 q hq
              rw [hz]; simp [Ver.c, CV.blL, CV.bl]) (by show 6 ≤ 6; omega)⟩
        · have : j = l.length := by omega
          subst this
          have hpl : prn l h = flt (del l h) l l.length := flt_end.symm
          simp (disch := omega) only [go_sem, ↓reduceIte, Nat.reduceEqDiff, Nat.reduceLT, Nat.reduceLeDiff, Nat.reduceAdd, Nat.reduceMul, Nat.reduceSub, Nat.reduceDiv, Nat.reduceMod, Int.reduceToNat, Int.reduceLT, Int.reduceLE, Int.reduceAdd, Int.reduceSub, Int.reduceMul, Int.reduceEq, Int.reduceNeg, reduceCtorEq, or_false, false_or, decide_true, decide_false, Int.cast_ofNat_Int, Nat.zero_add, Nat.add_zero, Int.toNat_natCast, Option.isNone_none, Option.isNone_some, Bool.not_true, Bool.not_false, Bool.xor_true, Bool.xor_false, Bool.true_xor, Bool.false_xor, decide_true, decide_false, Bool.and_true, Bool.true_and, Bool.and_false, Bool.false_and, eq_self, ne_eq, not_false_eq_true, not_true_eq_false, true_and, and_true, and_self, wrapI64, wrapu64, wrapu32, wrapu8, ltT, ltF, leT, leF, eqF, eqT, nltT, nleT, neqFn]
          refine sclear rfl tkind61 tsz52 tz52 rfl ⟨⟨by decide, rfl, rfl⟩, by omega, by omega⟩ ⟨trivial, ?_⟩
          simp (disch := omega) only [go_sem, ↓reduceIte, Nat.reduceEqDiff, Nat.reduceLT, Nat.reduceLeDiff, Nat.reduceAdd, Nat.reduceMul, Nat.reduceSub, Nat.reduceDiv, Nat.reduceMod, Int.reduceToNat, Int.reduceLT, Int.reduceLE, Int.reduceAdd, Int.reduceSub, Int.reduceMul, Int.reduceEq, Int.reduceNeg, reduceCtorEq, or_false, false_or, decide_true, decide_false, Int.cast_ofNat_Int, Nat.zero_add, Nat.add_zero, Int.toNat_natCast, Option.isNone_none, Option.isNone_some, Bool.not_true, Bool.not_false, Bool.xor_true, Bool.xor_false, Bool.true_xor, Bool.false_xor, decide_true, decide_false, Bool.and_true, Bool.true_and, Bool.and_false, Bool.false_and, eq_self, ne_eq, not_false_eq_true, not_true_eq_false, true_and, and_true, and_self, wrapI64, wrapu64, wrapu32, wrapu8, ltT, ltF, leT, leF, eqF, eqT, nltT, nleT, neqFn]
          refine fun ρ' a w' hs' hag => ?_
          obtain ⟨fp', hon, hch⟩ := ch_end1 (l := prn l h) rfl rfl hs' ((congrArg Nm.blk (hag 0 Nat.zero_lt_two)).trans hg) ((congrArg Nm.base (hag 0 Nat.zero_lt_two)).trans hb) Nat.zero_lt_two 1 c rfl (by omega) rfl (by rw [hpl]; exact hk) (by omega) (fun q hq => by
            show _ = rput r k (l.length - k) _ q
            unfold rput; rw [if_neg (by omega), hr1 q hq, hpl]) ⟨by omega, hc0⟩
          exact ⟨fp', by rw [hpl, ← hk]; rfl, hon, hch⟩
    · have : i = l.length := by omega
      subst this
      have hp0 : prn l h = l := by unfold prn; rw [← flt_end, flt_all hnone (Nat.le_refl _), List.take_length]
      simp (disch := omega) only [go_sem, ↓reduceIte, Nat.reduceEqDiff, Nat.reduceLT, Nat.reduceLeDiff, Nat.reduceAdd, Nat.reduceMul, Nat.reduceSub, Nat.reduceDiv, Nat.reduceMod, Int.reduceToNat, Int.reduceLT, Int.reduceLE, Int.reduceAdd, Int.reduceSub, Int.reduceMul, Int.reduceEq, Int.reduceNeg, reduceCtorEq, or_false, false_or, decide_true, decide_false, Int.cast_ofNat_Int, Nat.zero_add, Nat.add_zero, Int.toNat_natCast, Option.isNone_none, Option.isNone_some, Bool.not_true, Bool.not_false, Bool.xor_true, Bool.xor_false, Bool.true_xor, Bool.false_xor, decide_true, decide_false, Bool.and_true, Bool.true_and, Bool.and_false, Bool.false_and, eq_self, ne_eq, not_false_eq_true, not_true_eq_false, true_and, and_true, and_self, wrapI64, wrapu64, wrapu32, wrapu8, ltT, ltF, leT, leF, eqF, eqT, nltT, nleT, neqFn]
      refine fun ρ' a w' hs' hag => ?_
      obtain ⟨fp', hon, hch⟩ := ch_end1 (l := prn l h) rfl rfl hs' ((congrArg Nm.blk (hag 0 Nat.zero_lt_two)).trans hg) ((congrArg Nm.base (hag 0 Nat.zero_lt_two)).trans hb) Nat.zero_lt_two 1 c rfl (by omega) rfl (by rw [hp0]) (Nat.le_refl _) (fun j hj => by rw [hp0]) ⟨hc, hc0⟩
      exact ⟨fp', by rw [hp0]; rfl, hon, hch⟩
end Go.Proofs.Ytbdffcgbleiiaaa.CS
