/-
  The reference's chain: Prune; its calls as rules. Conditions: none.
-/
import Derived.Test.YtbdffcgbleiiaaaRCh2
import Derived.Test.YtbdffcgbleiiaaaSx26
namespace Go.Proofs.Ytbdffcgbleiiaaa.CS
open Go.RowKit Go.Sx
set_option linter.unusedVariables false
set_option linter.unusedSimpArgs false

theorem rch_cell (l : List Ver) : Cell0 (RSh l) := fun nx hp h => by
  rcases h with ⟨_, _, rfl⟩ | ⟨c, _, _, rfl⟩ <;> exact ⟨_, _, rfl⟩
theorem rdB_none {l : List Ver} {p : Ver → Bool} (h : rdB l p = false) {x : Ver} {k : Nat} (hx : l[k]? = some x) : p x = false := by
  unfold rdB at h
  rw [rdL_eq] at h
  cases hp : p x with
  | false => rfl
  | true =>
    have : x ∈ l.filter p := List.mem_filter.2 ⟨List.mem_of_getElem? hx, hp⟩
    cases hq : (l.filter p).getLast? with
    | none => rw [List.getLast?_eq_none_iff] at hq; rw [hq] at this; simp at this
    | some y => rw [hq] at h; cases h
abbrev RPP := Nat × Option Nat
def rpF (l : List Ver) (h : V4) (c : Nat) (b : Bool) (p : RPP) : St := match p with
  | (k, none) => ⟨[(8, .c (ci k)), (7, .c (.v (.slice none 0 0))), (6, .c (.v (.bool b))), (5, .c (.p 5 0 0)), (3, .c (.p 2 0 0)), (0, .c (.p 0 0 0))], [(5, .cells 56 (bst l h).c), (2, .cells 45 [cu h.a, cu h.b, cu h.c, cu h.d]), (0, .cells 29 [.s 4 0 l.length c]), (4, .rows 56 6 l.length c fun j => (vrow l j).map .v)], 6⟩
  | (k, some c') => ⟨[(8, .c (ci k)), (7, .c (.s 6 0 (flt (del l h) l k).length c')), (6, .c (.v (.bool b))), (5, .c (.p 5 0 0)), (3, .c (.p 2 0 0)), (0, .c (.p 0 0 0))], [(6, .rows 56 6 (flt (del l h) l k).length c' fun j => (vrow (flt (del l h) l k) j).map .v), (5, .cells 56 (bst l h).c), (2, .cells 45 [cu h.a, cu h.b, cu h.c, cu h.d]), (0, .cells 29 [.s 4 0 l.length c]), (4, .rows 56 6 l.length c fun j => (vrow l j).map .v)], 7⟩
theorem rp_ent (n : Nat) {fr : List (Nat × SV)} {hp : List (Nat × Blk)} {nx : Nat} {C : Cx} {l : List Ver} {h : V4} {b : Bool} {c c' k m : Nat} {r : Nat → List CV} (hC : C.n0 = 2) (hn : 5 < n)  (hm : m = (flt (del l h) l k).length)
    (f8 : lk fr 8 = .c (ci k)) (f7 : lk fr 7 = .c (.s n 0 m c')) (f6 : lk fr 6 = .c (.v (.bool b))) (f5 : lk fr 5 = .c (.p 5 0 0)) (f3 : lk fr 3 = .c (.p 2 0 0)) (f0 : lk fr 0 = .c (.p 0 0 0))
    (hg : hget hp n = some (.rows 56 6 m c' r)) (hr : ∀ j, j < m → (vrow (flt (del l h) l k) j).map .v = r j) (h5 : hget hp 5 = some (.cells 56 (bst l h).c)) (h2 : hget hp 2 = some (.cells 45 [cu h.a, cu h.b, cu h.c, cu h.d]))
    (h0 : hget hp 0 = some (.cells 29 [.s 4 0 l.length c])) (h4 : hget hp 4 = some (.rows 56 6 l.length c fun j => (vrow l j).map .v)) : Ent C ⟨fr, hp, nx⟩ (rpF l h c b (k, some c')) := by
  subst hm
  refine Ent.trans (ent_rows n hg hr) ?_
  unfold rpF
  refine ent_of (fun k => if k = 6 then n else k) ⟨⟨trivial, ?_⟩, ⟨?_, ?_⟩, ⟨trivial, ?_⟩, ⟨?_, ?_⟩, ⟨?_, ?_⟩, ⟨?_, ?_⟩, trivial⟩ ⟨⟨?_, ?_, ?_⟩, ⟨?_, ?_, ?_⟩, ⟨?_, ?_, ?_⟩, ⟨?_, ?_, ?_⟩, ⟨?_, ?_, ?_⟩, trivial⟩ ?_ ?_ fun k hk => ?_
  · rw [f8]; rfl
  · show 6 < 7; omega
  · rw [f7]; rfl
  · rw [f6]; rfl
  · show 5 < 7; omega
  · rw [f5]; rfl
  · show 2 < 7; omega
  · rw [f3]; rfl
  · show 0 < 7; omega
  · rw [f0]; rfl
  · show 6 < 7; omega
  · intro j _; exact blL_v _ _
  · show hget _ n = _
    rw [hget_hset n _ hp _ hg]
    simp [Blk.rn, CV.rnL_eq, Function.comp_def, CV.rn]
  · show 5 < 7; omega
  · simp [Blk.bl, CV.blL, CV.bl, Ver.c]
  · show hget _ 5 = _
    rw [hget_hset_ne n 5 _ (by omega), h5]; rfl
  · show 2 < 7; omega
  · simp [Blk.bl, CV.blL, CV.bl]
  · show hget _ 2 = _
    rw [hget_hset_ne n 2 _ (by omega), h2]; rfl
  · show 0 < 7; omega
  · simp [Blk.bl, CV.blL, CV.bl]
  · show hget _ 0 = _
    rw [hget_hset_ne n 0 _ (by omega), h0]; rfl
  · show 4 < 7; omega
  · intro j _; exact blL_v _ _
  · show hget _ 4 = _
    rw [hget_hset_ne n 4 _ (by omega), h4]
    simp [Blk.rn, CV.rnL_eq, Function.comp_def, CV.rn]
  · simp; omega
  · rw [hC]; omega
  · rw [hC] at hk
    show (if k = 6 then n else k) = k
    rw [if_neg (by omega)]
set_option maxHeartbeats 2000000 in
set_option maxRecDepth 100000 in
theorem rprune_c (g : Nat) (l : List Ver) (hl : l.length ≤ 100000) (h : V4) (fp : List Nat) (w : World) (ho : On g (RSh l) fp w) :
    Calls Try.prog 16 #[gptr g, h.v] w (Turn g fp (.int .i64 ((l.length : Int) - (prn l h).length)) (RSh (prn l h)) w) := by
  refine on_calls3 ho (rch_cell l) 76 _ Try.func16 rfl Try.ntmps16 Try.results16 [.c (.p 0 0 0), sv4 h.a h.b h.c h.d] (by simp) (fun ρ' h0 => by simp [SV.denL, SV.den, CV.den, CV.denL, gptr, h0]) (fun ρ nx hp hsh hpin => ?_)
  have hg : (ρ 0).blk = g := by rw [hpin.1]
  have hb : (ρ 0).base = 0 := by rw [hpin.1]
  rcases hsh with ⟨hn, rfl, rfl⟩ | ⟨c, ⟨hc, hc0⟩, rfl, rfl⟩
  · subst hn
    simp only [go_sem, ↓reduceIte, Nat.reduceEqDiff, Nat.reduceLT, Nat.reduceLeDiff, Nat.reduceAdd, Nat.reduceMul, Nat.reduceSub, Nat.reduceDiv, Nat.reduceMod, Int.reduceToNat, Int.reduceLT, Int.reduceLE, Int.reduceAdd, Int.reduceSub, Int.reduceMul, Int.reduceEq, Int.reduceNeg, reduceCtorEq, or_false, false_or, decide_true, decide_false, Int.cast_ofNat_Int, Nat.zero_add, Nat.add_zero, Int.toNat_natCast, Option.isNone_none, Option.isNone_some, Bool.not_true, Bool.not_false, Bool.xor_true, Bool.xor_false, Bool.true_xor, Bool.false_xor, decide_true, decide_false, Bool.and_true, Bool.true_and, Bool.and_false, Bool.false_and, eq_self, ne_eq, not_false_eq_true, not_true_eq_false, true_and, and_true, and_self]
    refine scall_self id 1 [(0, .cells 29 [.v (.slice none 0 0)])] [gptr g, h.v] (.tup [.agg (rdV [] fun x => x.st.seen h).c, .c (.v (.bool (rdB [] fun x => x.st.seen h)))]) ⟨hpin.2, hpin.1⟩ Try.call21 (fun fp w ho => (rread_c g [] (by simp) h fp w ho).mono fun e w' hh => hh.turn) (rch_cell [])
      ⟨⟨by omega, by simp [Blk.bl, CV.blL, CV.bl], rfl⟩, trivial⟩ (by simp) rfl (.inl ⟨rfl, rfl, rfl⟩) (.head _) rfl (by omega) rfl rfl (fun ρ hρ => by simp [SV.denL, SV.den, CV.den, CV.denL, gptr, hρ]) (fun ρ => rfl) rfl fun nx2 hp2 hsh2 => ?_
    rcases hsh2 with ⟨_, rfl, rfl⟩ | ⟨c, ⟨hc, hc0⟩, rfl, rfl⟩
    · rw [show rdV [] (fun x => x.st.seen h) = ver0 from rfl, show rdB [] (fun x => x.st.seen h) = false from rfl]
      simp only [go_sem, ↓reduceIte, Nat.reduceEqDiff, Nat.reduceLT, Nat.reduceLeDiff, Nat.reduceAdd, Nat.reduceMul, Nat.reduceSub, Nat.reduceDiv, Nat.reduceMod, Int.reduceToNat, Int.reduceLT, Int.reduceLE, Int.reduceAdd, Int.reduceSub, Int.reduceMul, Int.reduceEq, Int.reduceNeg, reduceCtorEq, or_false, false_or, decide_true, decide_false, Int.cast_ofNat_Int, Nat.zero_add, Nat.add_zero, Int.toNat_natCast, Option.isNone_none, Option.isNone_some, Bool.not_true, Bool.not_false, Bool.xor_true, Bool.xor_false, Bool.true_xor, Bool.false_xor, decide_true, decide_false, Bool.and_true, Bool.true_and, Bool.and_false, Bool.false_and, eq_self, ne_eq, not_false_eq_true, not_true_eq_false, true_and, and_true, and_self, ver0, Ver.c]
      refine sloop (fun _ : Unit => ⟨[(8, .c (ci 0)), (7, .c (.v (.slice none 0 0))), (0, .c (.p 0 0 0))], [(0, .cells 29 [.v (.slice none 0 0)])], 4⟩) (fun _ => True) (fun _ => 0) () trivial (ent_drop ⟨rfl, rfl, rfl, trivial⟩ ⟨rfl, trivial⟩ (by simp)) (fun _ _ => ?_)
      simp (disch := omega) only [go_sem, ↓reduceIte, Nat.reduceEqDiff, Nat.reduceLT, Nat.reduceLeDiff, Nat.reduceAdd, Nat.reduceMul, Nat.reduceSub, Nat.reduceDiv, Nat.reduceMod, Int.reduceToNat, Int.reduceLT, Int.reduceLE, Int.reduceAdd, Int.reduceSub, Int.reduceMul, Int.reduceEq, Int.reduceNeg, reduceCtorEq, or_false, false_or, decide_true, decide_false, Int.cast_ofNat_Int, Nat.zero_add, Nat.add_zero, Int.toNat_natCast, Option.isNone_none, Option.isNone_some, Bool.not_true, Bool.not_false, Bool.xor_true, Bool.xor_false, Bool.true_xor, Bool.false_xor, decide_true, decide_false, Bool.and_true, Bool.true_and, Bool.and_false, Bool.false_and, eq_self, ne_eq, not_false_eq_true, not_true_eq_false, true_and, and_true, and_self, wrapI64, wrapu64, wrapu32, wrapu8, ltT, ltF, leT, leF, eqF, eqT, nltT, nleT, neqFn]
      refine fun ρ' a w' hs' hag => ?_
      obtain ⟨fp', hon, hch⟩ := rch_end0 (l := prn [] h) rfl rfl hs' ((congrArg Nm.blk (hag 0 Nat.zero_lt_one)).trans hg) ((congrArg Nm.base (hag 0 Nat.zero_lt_one)).trans hb) rfl rfl
      exact ⟨fp', rfl, hon, hch⟩
    · simp at hc0
  · simp only [go_sem, ↓reduceIte, Nat.reduceEqDiff, Nat.reduceLT, Nat.reduceLeDiff, Nat.reduceAdd, Nat.reduceMul, Nat.reduceSub, Nat.reduceDiv, Nat.reduceMod, Int.reduceToNat, Int.reduceLT, Int.reduceLE, Int.reduceAdd, Int.reduceSub, Int.reduceMul, Int.reduceEq, Int.reduceNeg, reduceCtorEq, or_false, false_or, decide_true, decide_false, Int.cast_ofNat_Int, Nat.zero_add, Nat.add_zero, Int.toNat_natCast, Option.isNone_none, Option.isNone_some, Bool.not_true, Bool.not_false, Bool.xor_true, Bool.xor_false, Bool.true_xor, Bool.false_xor, decide_true, decide_false, Bool.and_true, Bool.true_and, Bool.and_false, Bool.false_and, eq_self, ne_eq, not_false_eq_true, not_true_eq_false, true_and, and_true, and_self]
    refine scall_self id 2 [(0, .cells 29 [.s 1 0 l.length c]), (1, .rows 56 6 l.length c fun j => (vrow l j).map .v)] [gptr g, h.v] (.tup [.agg (rdV l fun x => x.st.seen h).c, .c (.v (.bool (rdB l fun x => x.st.seen h)))]) ⟨hpin.2, hpin.1⟩ Try.call21 (fun fp w ho => (rread_c g l hl h fp w ho).mono fun e w' hh => hh.turn) (rch_cell l)
      ⟨⟨by omega, by simp [Blk.bl, CV.blL, CV.bl], rfl⟩, ⟨by omega, fun j _ => blL_v _ _, by simp [Blk.rn, rnL_v]; rfl⟩, trivial⟩ (by simp) rfl (.inr ⟨c, ⟨hc, hc0⟩, rfl, rfl⟩) (.head _) rfl (by omega) rfl rfl (fun ρ hρ => by simp [SV.denL, SV.den, CV.den, CV.denL, gptr, hρ]) (fun ρ => rfl) rfl fun nx2 hp2 hsh2 => ?_
    have hbv : rdV l (fun x => x.st.seen h) = bst l h := rfl
    rcases hsh2 with ⟨hn, rfl, rfl⟩ | ⟨c2, ⟨hc2, hc20⟩, rfl, rfl⟩
    · rw [hn] at hc0; simp at hc0
    obtain ⟨b, hbd⟩ : ∃ b, rdB l (fun x => x.st.seen h) = b := ⟨_, rfl⟩
    rw [hbv, hbd]
    simp only [go_sem, ↓reduceIte, Nat.reduceEqDiff, Nat.reduceLT, Nat.reduceLeDiff, Nat.reduceAdd, Nat.reduceMul, Nat.reduceSub, Nat.reduceDiv, Nat.reduceMod, Int.reduceToNat, Int.reduceLT, Int.reduceLE, Int.reduceAdd, Int.reduceSub, Int.reduceMul, Int.reduceEq, Int.reduceNeg, reduceCtorEq, or_false, false_or, decide_true, decide_false, Int.cast_ofNat_Int, Nat.zero_add, Nat.add_zero, Int.toNat_natCast, Option.isNone_none, Option.isNone_some, Bool.not_true, Bool.not_false, Bool.xor_true, Bool.xor_false, Bool.true_xor, Bool.false_xor, decide_true, decide_false, Bool.and_true, Bool.true_and, Bool.and_false, Bool.false_and, eq_self, ne_eq, not_false_eq_true, not_true_eq_false, true_and, and_true, and_self, Ver.c]
    refine sloop (rpF l h c2 b) (fun p => p.1 ≤ l.length ∧ (p.2 = none → flt (del l h) l p.1 = []) ∧ ∀ c', p.2 = some c' → (flt (del l h) l p.1).length ≤ c' ∧ 0 < (flt (del l h) l p.1).length) (fun p => l.length - p.1) (0, none) ⟨Nat.zero_le _, fun _ => rfl, fun c' hc' => by cases hc'⟩ (ent_drop ⟨rfl, rfl, rfl, rfl, rfl, rfl, trivial⟩ ⟨rfl, rfl, rfl, rfl, trivial⟩ (by simp)) (fun p hp => ?_)
    obtain ⟨k, oc⟩ := p
    obtain ⟨hk, hn, hcc⟩ : k ≤ l.length ∧ (oc = none → flt (del l h) l k = []) ∧ ∀ c', oc = some c' → (flt (del l h) l k).length ≤ c' ∧ 0 < (flt (del l h) l k).length := hp
    by_cases hkl : k < l.length
    · obtain ⟨y, hy⟩ : ∃ y, l[k]? = some y := ⟨_, List.getElem?_eq_getElem hkl⟩
      have hrow := vrow_eq hy
      have hfs := flt_s (p := del l h) hy
      have hdec := stp_dec y.st (bst l h).st
      have hle := flt_le (p := del l h) (l := l) k
      have key : ∀ (bb sn eq : Bool), b = bb → y.st.seen h = sn → decide (y.st = (bst l h).st) = eq → del l h y = (bb && (sn && !eq)) := fun bb sn eq h1 h2 h3 => by
        unfold del
        rw [h2, decide_not, h3]
        cases bb with
        | true => rfl
        | false =>
          rw [h1] at hbd
          have := rdB_none hbd hy
          rw [h2] at this; rw [this]; rfl
      cases hsn : y.st.seen h <;> cases heq : decide (y.st = (bst l h).st) <;> cases b <;> have hd := key _ _ _ rfl hsn heq <;> rw [heq] at hdec
      all_goals
        rcases oc with _ | c'
        all_goals
          unfold rpF
          simp (disch := omega) only [go_sem, ↓reduceIte, Nat.reduceEqDiff, Nat.reduceLT, Nat.reduceLeDiff, Nat.reduceAdd, Nat.reduceMul, Nat.reduceSub, Nat.reduceDiv, Nat.reduceMod, Int.reduceToNat, Int.reduceLT, Int.reduceLE, Int.reduceAdd, Int.reduceSub, Int.reduceMul, Int.reduceEq, Int.reduceNeg, reduceCtorEq, or_false, false_or, decide_true, decide_false, Int.cast_ofNat_Int, Nat.zero_add, Nat.add_zero, Int.toNat_natCast, Option.isNone_none, Option.isNone_some, Bool.not_true, Bool.not_false, Bool.xor_true, Bool.xor_false, Bool.true_xor, Bool.false_xor, decide_true, decide_false, Bool.and_true, Bool.true_and, Bool.and_false, Bool.false_and, eq_self, ne_eq, not_false_eq_true, not_true_eq_false, true_and, and_true, and_self, wrapI64, wrapu64, wrapu32, wrapu8, ltT, ltF, leT, leF, eqF, eqT, nltT, nleT, neqFn]
          refine sdraw [.t 0, .t 1, .t 2, .t 3, .t 4, .t 5, .t 6, .t 7, .t 8, .t 9, .t 10, .t 11, .r 12, .t 13, .t 14, .t 15, .t 16, .t 17, .t 18, .t 19, .t 20, .t 21, .t 22, .t 23, .t 24, .t 25, .t 26, .t 27] 28 [(0, _), (4, _), (2, _), (5, _)] rfl (by kernel_rfl) ⟨rfl, rfl, rfl, rfl, trivial⟩ ?_
          simp (disch := omega) only [go_sem, ↓reduceIte, Nat.reduceEqDiff, Nat.reduceLT, Nat.reduceLeDiff, Nat.reduceAdd, Nat.reduceMul, Nat.reduceSub, Nat.reduceDiv, Nat.reduceMod, Int.reduceToNat, Int.reduceLT, Int.reduceLE, Int.reduceAdd, Int.reduceSub, Int.reduceMul, Int.reduceEq, Int.reduceNeg, reduceCtorEq, or_false, false_or, decide_true, decide_false, Int.cast_ofNat_Int, Nat.zero_add, Nat.add_zero, Int.toNat_natCast, Option.isNone_none, Option.isNone_some, Bool.not_true, Bool.not_false, Bool.xor_true, Bool.xor_false, Bool.true_xor, Bool.false_xor, decide_true, decide_false, Bool.and_true, Bool.true_and, Bool.and_false, Bool.false_and, eq_self, ne_eq, not_false_eq_true, not_true_eq_false, true_and, and_true, and_self, wrapI64, wrapu64, wrapu32, wrapu8, ltT, ltF, leT, leF, eqF, eqT, nltT, nleT, neqFn, hrow, Ver.c]
          try
            refine rseen_s (x := y.st) (h := h) ?_
            rw [hsn]
            simp (disch := omega) only [go_sem, ↓reduceIte, Nat.reduceEqDiff, Nat.reduceLT, Nat.reduceLeDiff, Nat.reduceAdd, Nat.reduceMul, Nat.reduceSub, Nat.reduceDiv, Nat.reduceMod, Int.reduceToNat, Int.reduceLT, Int.reduceLE, Int.reduceAdd, Int.reduceSub, Int.reduceMul, Int.reduceEq, Int.reduceNeg, reduceCtorEq, or_false, false_or, decide_true, decide_false, Int.cast_ofNat_Int, Nat.zero_add, Nat.add_zero, Int.toNat_natCast, Option.isNone_none, Option.isNone_some, Bool.not_true, Bool.not_false, Bool.xor_true, Bool.xor_false, Bool.true_xor, Bool.false_xor, decide_true, decide_false, Bool.and_true, Bool.true_and, Bool.and_false, Bool.false_and, eq_self, ne_eq, not_false_eq_true, not_true_eq_false, true_and, and_true, and_self, wrapI64, wrapu64, wrapu32, wrapu8, ltT, ltF, leT, leF, eqF, eqT, nltT, nleT, neqFn, hrow, hdec, Ver.c]
      all_goals first
        | have hd : del l h y = false := hd
          rw [hd, if_neg (by simp)] at hfs
          have hf0 := hn rfl
          rw [hf0, List.nil_append] at hfs
          refine sappend_nil rfl rfl tkind27 tsz56 tby56 tz56 rfl ⟨⟨rfl, by decide, by decide⟩, by decide, by decide, by decide⟩ ⟨by show (62 : Nat) < 76; omega, fun c' hc' => ?_⟩
          simp (disch := omega) only [go_sem, ↓reduceIte, Nat.reduceEqDiff, Nat.reduceLT, Nat.reduceLeDiff, Nat.reduceAdd, Nat.reduceMul, Nat.reduceSub, Nat.reduceDiv, Nat.reduceMod, Int.reduceToNat, Int.reduceLT, Int.reduceLE, Int.reduceAdd, Int.reduceSub, Int.reduceMul, Int.reduceEq, Int.reduceNeg, reduceCtorEq, or_false, false_or, decide_true, decide_false, Int.cast_ofNat_Int, Nat.zero_add, Nat.add_zero, Int.toNat_natCast, Option.isNone_none, Option.isNone_some, Bool.not_true, Bool.not_false, Bool.xor_true, Bool.xor_false, Bool.true_xor, Bool.false_xor, decide_true, decide_false, Bool.and_true, Bool.true_and, Bool.and_false, Bool.false_and, eq_self, ne_eq, not_false_eq_true, not_true_eq_false, true_and, and_true, and_self, wrapI64, wrapu64, wrapu32, wrapu8, ltT, ltF, leT, leF, eqF, eqT, nltT, nleT, neqFn]
          refine ⟨(k + 1, some c'), ⟨hkl, (fun h => by cases h), fun c0 h0 => by injection h0 with h0; subst h0; show (flt (del l h) l (k + 1)).length ≤ _ ∧ _; rw [hfs]; exact ⟨hc', by simp⟩⟩, by show l.length - (k + 1) < l.length - k; omega, rp_ent 7 rfl (by omega) (by rw [hfs]; rfl) rfl rfl rfl rfl rfl rfl rfl (fun j hj => by
            have : j = 0 := by omega
            subst this; rw [hfs]; rfl) rfl rfl rfl rfl⟩
        | have hd : del l h y = false := hd
          rw [hd, if_neg (by simp)] at hfs
          obtain ⟨hc1, hc2'⟩ := hcc _ rfl
          refine sappend rfl rfl tkind27 tsz56 tby56 tz56 rfl rfl ⟨⟨rfl, by decide, by decide, Nat.le_refl _⟩, by decide, by omega, by omega⟩ (fun q hq => by
            have : q = 0 := by omega
            subst this; rfl) ⟨by show (62 : Nat) < 76; omega, fun c2 hc2 => ?_⟩
          simp (disch := omega) only [go_sem, ↓reduceIte, Nat.reduceEqDiff, Nat.reduceLT, Nat.reduceLeDiff, Nat.reduceAdd, Nat.reduceMul, Nat.reduceSub, Nat.reduceDiv, Nat.reduceMod, Int.reduceToNat, Int.reduceLT, Int.reduceLE, Int.reduceAdd, Int.reduceSub, Int.reduceMul, Int.reduceEq, Int.reduceNeg, reduceCtorEq, or_false, false_or, decide_true, decide_false, Int.cast_ofNat_Int, Nat.zero_add, Nat.add_zero, Int.toNat_natCast, Option.isNone_none, Option.isNone_some, Bool.not_true, Bool.not_false, Bool.xor_true, Bool.xor_false, Bool.true_xor, Bool.false_xor, decide_true, decide_false, Bool.and_true, Bool.true_and, Bool.and_false, Bool.false_and, eq_self, ne_eq, not_false_eq_true, not_true_eq_false, true_and, and_true, and_self, wrapI64, wrapu64, wrapu32, wrapu8, ltT, ltF, leT, leF, eqF, eqT, nltT, nleT, neqFn]
          refine ⟨(k + 1, some c2), ⟨hkl, (fun h => by cases h), fun c0 h0 => by injection h0 with h0; subst h0; show (flt (del l h) l (k + 1)).length ≤ _ ∧ _; rw [hfs]; exact ⟨by simpa using hc2, by simp⟩⟩, by show l.length - (k + 1) < l.length - k; omega, rp_ent 8 rfl (by omega) (by rw [hfs]; simp) rfl rfl rfl rfl rfl rfl rfl (fun j hj => by
            rw [hfs]
            unfold rapp
            by_cases h2 : j < (flt (del l h) l k).length
            · rw [if_pos h2, vrow_app h2]
            · have h3 : j = (flt (del l h) l k).length := by omega
              rw [if_neg h2, h3, vrow_last, Nat.sub_self]; rfl) rfl rfl rfl rfl⟩
        | have hd : del l h y = true := hd
          rw [hd, if_pos rfl] at hfs
          refine ⟨(k + 1, none), ⟨hkl, fun _ => by show flt (del l h) l (k + 1) = []; rw [hfs]; exact hn rfl, fun c0 h0 => by cases h0⟩, by show l.length - (k + 1) < l.length - k; omega, ?_⟩
          exact ent_drop ⟨rfl, rfl, rfl, rfl, rfl, rfl, trivial⟩ ⟨rfl, rfl, rfl, rfl, trivial⟩ (by simp)
        | have hd : del l h y = true := hd
          rw [hd, if_pos rfl] at hfs
          refine ⟨(k + 1, some _), ⟨hkl, (fun h => by cases h), fun c0 h0 => by injection h0 with h0; subst h0; show (flt (del l h) l (k + 1)).length ≤ _ ∧ _; rw [hfs]; exact hcc _ rfl⟩, by show l.length - (k + 1) < l.length - k; omega, ?_⟩
          dsimp only
          rw [hfs]
          exact ent_drop ⟨rfl, rfl, rfl, rfl, rfl, rfl, trivial⟩ ⟨rfl, rfl, rfl, rfl, rfl, trivial⟩ (by simp)
    · have hkm : k = l.length := by omega
      subst hkm
      have hpl : prn l h = flt (del l h) l l.length := flt_end.symm
      have hle := prn_le l h
      rcases oc with _ | c'
      · have hp0 := hpl.trans (hn rfl)
        unfold rpF
        simp (disch := omega) only [go_sem, ↓reduceIte, Nat.reduceEqDiff, Nat.reduceLT, Nat.reduceLeDiff, Nat.reduceAdd, Nat.reduceMul, Nat.reduceSub, Nat.reduceDiv, Nat.reduceMod, Int.reduceToNat, Int.reduceLT, Int.reduceLE, Int.reduceAdd, Int.reduceSub, Int.reduceMul, Int.reduceEq, Int.reduceNeg, reduceCtorEq, or_false, false_or, decide_true, decide_false, Int.cast_ofNat_Int, Nat.zero_add, Nat.add_zero, Int.toNat_natCast, Option.isNone_none, Option.isNone_some, Bool.not_true, Bool.not_false, Bool.xor_true, Bool.xor_false, Bool.true_xor, Bool.false_xor, decide_true, decide_false, Bool.and_true, Bool.true_and, Bool.and_false, Bool.false_and, eq_self, ne_eq, not_false_eq_true, not_true_eq_false, true_and, and_true, and_self, wrapI64, wrapu64, wrapu32, wrapu8, ltT, ltF, leT, leF, eqF, eqT, nltT, nleT, neqFn]
        refine fun ρ' a w' hs' hag => ?_
        obtain ⟨fp', hon, hch⟩ := rch_end0 (l := prn l h) rfl rfl hs' ((congrArg Nm.blk (hag 0 Nat.zero_lt_two)).trans hg) ((congrArg Nm.base (hag 0 Nat.zero_lt_two)).trans hb) rfl hp0
        exact ⟨fp', by rw [hp0]; simp [SV.den, CV.den], hon, hch⟩
      · obtain ⟨hc1, hc2'⟩ := hcc c' rfl
        have hfl : (flt (del l h) l l.length).length ≤ l.length := flt_le _
        unfold rpF
        simp (disch := omega) only [go_sem, ↓reduceIte, Nat.reduceEqDiff, Nat.reduceLT, Nat.reduceLeDiff, Nat.reduceAdd, Nat.reduceMul, Nat.reduceSub, Nat.reduceDiv, Nat.reduceMod, Int.reduceToNat, Int.reduceLT, Int.reduceLE, Int.reduceAdd, Int.reduceSub, Int.reduceMul, Int.reduceEq, Int.reduceNeg, reduceCtorEq, or_false, false_or, decide_true, decide_false, Int.cast_ofNat_Int, Nat.zero_add, Nat.add_zero, Int.toNat_natCast, Option.isNone_none, Option.isNone_some, Bool.not_true, Bool.not_false, Bool.xor_true, Bool.xor_false, Bool.true_xor, Bool.false_xor, decide_true, decide_false, Bool.and_true, Bool.true_and, Bool.and_false, Bool.false_and, eq_self, ne_eq, not_false_eq_true, not_true_eq_false, true_and, and_true, and_self, wrapI64, wrapu64, wrapu32, wrapu8, ltT, ltF, leT, leF, eqF, eqT, nltT, nleT, neqFn]
        refine fun ρ' a w' hs' hag => ?_
        obtain ⟨fp', hon, hch⟩ := rch_end1 (l := prn l h) rfl rfl hs' ((congrArg Nm.blk (hag 0 Nat.zero_lt_two)).trans hg) ((congrArg Nm.base (hag 0 Nat.zero_lt_two)).trans hb) Nat.zero_lt_two 6 c' rfl (by omega) rfl (by rw [hpl]) (Nat.le_refl _) (fun j hj => by rw [hpl]) ⟨hc1, hc2'⟩
        exact ⟨fp', by rw [hpl]; rfl, hon, hch⟩
end Go.Proofs.Ytbdffcgbleiiaaa.CS
