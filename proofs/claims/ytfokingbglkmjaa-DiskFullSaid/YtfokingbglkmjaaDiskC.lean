/-
  What is synced is never lost, whichever blocks are kept; each other block is there, or is zeros. Conditions: none.
-/
import Derived.Test.YtfokingbglkmjaaDiskB
namespace Go.Proofs.Ytfokingbglkmjaa
open Go.RowKit Go.Sx
set_option linter.unusedVariables false
set_option linter.unusedSimpArgs false

theorem nat_u8 {a : Int} (hw : (Lit.int .u8 a).wf = true) : ∃ n : Nat, n < 256 ∧ a = n := by
  simp [Lit.wf, IntKind.min, IntKind.max, IntKind.signed, IntKind.bits] at hw
  exact ⟨a.toNat, by omega, by omega⟩
theorem nat_u32 {a : Int} (hw : (Lit.int .u32 a).wf = true) : ∃ n : Nat, n < 2 ^ 32 ∧ a = n := by
  simp [Lit.wf, IntKind.min, IntKind.max, IntKind.signed, IntKind.bits] at hw
  exact ⟨a.toNat, by omega, by omega⟩
theorem nat_u64 {a : Int} (hw : (Lit.int .u64 a).wf = true) : ∃ n : Nat, n < 2 ^ 64 ∧ a = n := by
  simp [Lit.wf, IntKind.min, IntKind.max, IntKind.signed, IntKind.bits] at hw
  exact ⟨a.toNat, by omega, by omega⟩
theorem byL_zero : ∀ n i, byL (fun _ => [CV.v (Value.int .u8 0)]) i n = some (List.replicate n 0)
  | 0, _ => rfl
  | n + 1, i => by rw [byL, byL_zero n (i + 1)]; rfl
theorem rep_zero : ∀ n, Lib.repeatL [0] n = List.replicate n 0
  | 0 => rfl
  | n + 1 => by simp [Lib.repeatL, rep_zero n, List.replicate_succ]
theorem strB_zero (n : Nat) : strB (List.replicate n 0) = zeros n := by
  simp [strB, zeros, rep_zero]
theorem crOut_e (kept : Nat) (fast : ByteArray) (late : List ByteArray) : ∀ n, crOut kept fast late n = fast ++ crOut kept ⟨#[]⟩ late n
  | 0 => (append_e fast).symm
  | n + 1 => by
    rw [crOut, crOut_e kept fast late n, crOut]
    apply ByteArray.ext; simp [Array.append_assoc]
theorem crOut_snoc (kept : Nat) (fast : ByteArray) (late : List ByteArray) (s : ByteArray) : ∀ n, n ≤ late.length → crOut kept fast (late ++ [s]) n = crOut kept fast late n
  | 0, _ => rfl
  | n + 1, h => by
    rw [crOut, crOut, crOut_snoc kept fast late s n (by omega)]
    rw [List.getD_eq_getElem?_getD, List.getD_eq_getElem?_getD, List.getElem?_append_left (by omega)]
theorem crOut_more (kept : Nat) (fast : ByteArray) (late : List ByteArray) (s : ByteArray) : crOut kept fast (late ++ [s]) (late.length + 1) = crOut kept fast late late.length ++ crPiece kept late.length s := by
  rw [crOut, crOut_snoc kept fast late s _ (Nat.le_refl _)]
  rw [List.getD_eq_getElem?_getD]; simp
theorem shr_at' (x k : Nat) (hk : k ≤ 32) : (x : Int).fdiv (2 ^ (min k 32)) = ((x / 2 ^ k : Nat) : Int) := by
  rw [Nat.min_eq_left hk, Int.fdiv_eq_ediv_of_nonneg _ (by exact_mod_cast Nat.zero_le _)]
  simp
/-- One block more, synced behind it or not. -/
def kstep (sync : Nat) (i : Nat) (s : ByteArray) (d : Dk) : Dk := if decide (sync / 2 ^ i % 2 = 1) then syncD { d with late := d.late ++ [s] } else { d with late := d.late ++ [s] }
def kN (sync : Nat) (ss : Nat → ByteArray) : Nat → Dk
  | 0 => c0 1048576
  | i + 1 => kstep sync i ((ss i).extract 0 (min (ss i).size 100)) (kN sync ss i)
theorem late_all (d : Dk) (s : ByteArray) : ({ d with late := d.late ++ [s] } : Dk).all = d.all ++ s := by
  simp only [Dk.all, cat_snoc]; apply ByteArray.ext; simp [Array.append_assoc]
theorem kN_ok (sync : Nat) (ss : Nat → ByteArray) : ∀ i, (kN sync ss i).all.size ≤ 100 * i ∧ (kN sync ss i).late.length ≤ i ∧ (kN sync ss i).room = 1048576 ∧ (kN sync ss i).held = false
  | 0 => ⟨Nat.zero_le _, Nat.zero_le _, rfl, rfl⟩
  | i + 1 => by
    obtain ⟨h1, h2, h3, h4⟩ := kN_ok sync ss i
    have hp : ((ss i).extract 0 (min (ss i).size 100)).size ≤ 100 := by rw [ByteArray.size_extract]; omega
    have ha : ({ kN sync ss i with late := (kN sync ss i).late ++ [(ss i).extract 0 (min (ss i).size 100)] } : Dk).all.size ≤ 100 * (i + 1) := by rw [late_all, ByteArray.size_append]; omega
    simp only [kN, kstep]
    split
    · unfold syncD
      rw [if_neg (by simp [h4])]
      exact ⟨by rw [setD_all]; exact ha, Nat.zero_le _, h3, rfl⟩
    · exact ⟨ha, by simp; omega, h3, h4⟩
def kSt (b0 : Nat) (x0 : CV) (m0 : Nat) (r0 : Nat → List Value) (sync kept g : Nat) (d : Dk) (i : Nat) (fp : List Nat) : St :=
  ⟨[(14, .c (.v (.int .i64 i))), (13, .c (.v (.int .i64 d.late.length))), (12, .c (.v (.string (crOut kept ⟨#[]⟩ d.late d.late.length)))), (11, .c (.v (.string d.all))), (10, .c (.v (.string d.fast))), (8, .c (.v (gptr g))), (7, .c (.v (.bool true))), (0, .c x0), (1, .c (.v (.int .u32 sync))), (2, .c (.v (.int .u64 kept)))],
   [(1, .pred fp (On g (DSh d) fp)), (0, .imm 1 m0 fun i => (r0 i).map .v)], 2⟩

set_option maxHeartbeats 2000000 in
set_option maxRecDepth 100000 in
theorem dkeeps_c (w : World) {b0 o0 m0 : Nat} {r0 : Nat → List Value} {x0 : CV} {v0 : Value} (i0 : ImmAt w b0 o0 1 m0 r0) (l0 : LArg 0 m0 x0)
    (e0 : ∀ ρ : Env, ρ 0 = ⟨b0, o0, 1⟩ → x0.den ρ = v0) (f0 : ∀ i, i < m0 → FOk [.s] (r0 i)) (hm0 : m0 ≤ maxLen) (sync kept : Nat) (hsync : sync < 2 ^ 32) (hkept : kept < 2 ^ 64) :
    Calls Try.prog 9 #[v0, .int .u32 sync, .int .u64 kept] w fun e w' => e = .returned (.bool true) ∧ Below w.heap.size w w' := by
  refine calls_imm [⟨b0, o0, 1, m0, r0⟩] (by simp; exact i0) 111 _ Try.func9 rfl Try.ntmps9 Try.results9 [.c x0, .c (.v (.int .u32 sync)), .c (.v (.int .u64 kept))] (by simp) (fun ρ h => by simp [SV.denL, SV.den, CV.den, e0 ρ (h 0 (by simp))]) ?_
  have n0 := l0.len
  unfold maxLen at hm0
  obtain ⟨ss, hss⟩ : ∃ ss : Nat → ByteArray, ∀ i, i < m0 → (r0 i).map CV.v = [.v (.string (ss i))] ∧ (ss i).size ≤ maxLen := by
    have : ∀ i, i < m0 → ∃ s : ByteArray, (r0 i).map CV.v = [.v (.string s)] ∧ s.size ≤ maxLen := fun i hi => by
      have := f0 i hi
      match hr : r0 i, this with
      | [_], ⟨⟨s, rfl, hs⟩, _⟩ => exact ⟨s, rfl, hs⟩
    exact ⟨fun i => if h : i < m0 then (this i h).choose else .empty, fun i hi => by simp only [hi, dite_true]; exact (this i hi).choose_spec⟩
  simp only [immL, List.length_cons, List.length_nil, Nat.zero_add, Nat.reduceAdd]
  simp only [go_sem, ↓reduceIte, Nat.reduceEqDiff, Nat.reduceLT, Nat.reduceLeDiff, Nat.reduceAdd, Nat.reduceMul, Nat.reduceSub, Nat.reduceDiv, Nat.reduceMod, Int.reduceToNat, Int.reduceLT, Int.reduceLE, Int.reduceAdd, Int.reduceSub, Int.reduceMul, Int.reduceEq, Int.reduceNeg, reduceCtorEq, or_false, false_or, decide_true, decide_false, Int.cast_ofNat_Int, Nat.zero_add, Nat.add_zero, Int.toNat_natCast, Option.isNone_none, Option.isNone_some, Bool.not_true, Bool.not_false, Bool.xor_true, Bool.xor_false, Bool.true_xor, Bool.false_xor, decide_true, decide_false, Bool.and_true, Bool.true_and, Bool.and_false, Bool.false_and, eq_self, ne_eq, not_false_eq_true, not_true_eq_false, true_and, and_true, and_self]
  refine scall_pure [] (.c (.v (.bool true))) (.bool true) Try.call46 ex11_c rfl (fun _ => rfl) (fun _ => rfl) ?_
  simp only [go_sem, ↓reduceIte, Nat.reduceEqDiff, Nat.reduceLT, Nat.reduceLeDiff, Nat.reduceAdd, Nat.reduceMul, Nat.reduceSub, Nat.reduceDiv, Nat.reduceMod, Int.reduceToNat, Int.reduceLT, Int.reduceLE, Int.reduceAdd, Int.reduceSub, Int.reduceMul, Int.reduceEq, Int.reduceNeg, reduceCtorEq, or_false, false_or, decide_true, decide_false, Int.cast_ofNat_Int, Nat.zero_add, Nat.add_zero, Int.toNat_natCast, Option.isNone_none, Option.isNone_some, Bool.not_true, Bool.not_false, Bool.xor_true, Bool.xor_false, Bool.true_xor, Bool.false_xor, decide_true, decide_false, Bool.and_true, Bool.true_and, Bool.and_false, Bool.false_and, eq_self, ne_eq, not_false_eq_true, not_true_eq_false, true_and, and_true, and_self]
  refine on_new (Sh := DSh (c0 1048576)) [.int .i64 1048576] (fun g => .tuple #[gptr g, .int .i64 0]) (fun g => .tup [.c (.v (gptr g)), .c (.v (.int .i64 0))]) Try.call47 (dnew_c 1048576 (by omega)) rfl (fun _ => rfl) (fun _ _ => rfl) rfl fun g fp0 => ?_
  simp only [go_sem, ↓reduceIte, Nat.reduceEqDiff, Nat.reduceLT, Nat.reduceLeDiff, Nat.reduceAdd, Nat.reduceMul, Nat.reduceSub, Nat.reduceDiv, Nat.reduceMod, Int.reduceToNat, Int.reduceLT, Int.reduceLE, Int.reduceAdd, Int.reduceSub, Int.reduceMul, Int.reduceEq, Int.reduceNeg, reduceCtorEq, or_false, false_or, decide_true, decide_false, Int.cast_ofNat_Int, Nat.zero_add, Nat.add_zero, Int.toNat_natCast, Option.isNone_none, Option.isNone_some, Bool.not_true, Bool.not_false, Bool.xor_true, Bool.xor_false, Bool.true_xor, Bool.false_xor, decide_true, decide_false, Bool.and_true, Bool.true_and, Bool.and_false, Bool.false_and, eq_self, ne_eq, not_false_eq_true, not_true_eq_false, true_and, and_true, and_self]
  refine sloop (fun p : Nat × List Nat => kSt 0 x0 m0 r0 sync kept g (kN sync ss p.1) p.1 p.2) (fun p => p.1 ≤ m0 ∧ p.1 ≤ 20) (fun p => 20 - p.1) (0, fp0) ⟨by simp, by simp⟩ (ent_drop ⟨rfl, rfl, rfl, rfl, rfl, rfl, rfl, rfl, rfl, rfl, trivial⟩ ⟨rfl, rfl, trivial⟩ (by simp)) (fun p hp => ?_)
  obtain ⟨i, fp⟩ := p
  obtain ⟨hi, hi20⟩ : i ≤ m0 ∧ i ≤ 20 := hp
  obtain ⟨z1, z2, z3, z4⟩ := kN_ok sync ss i
  obtain ⟨d, hd⟩ : ∃ d, kN sync ss i = d := ⟨_, rfl⟩
  have hnx : kN sync ss (i + 1) = kstep sync i ((ss i).extract 0 (min (ss i).size 100)) d := by rw [← hd]; rfl
  have hdS : d.small := by rw [← hd]; exact ⟨by omega, by omega⟩
  show X _ _ _ _ (kSt 0 x0 m0 r0 sync kept g (kN sync ss i) i fp)
  rw [hd] at z1 z2 z3 z4 ⊢
  by_cases h : i < m0 ∧ i < 20
  · obtain ⟨ha, hb⟩ := h
    have d0 : decide ((i : Int) < m0) = true := by simp; omega
    have d1 : decide ((i : Int) < 20) = true := by simp; omega
    have d3 : (0 : Int) ≤ i ∧ (i : Int) < m0 := by omega
    have w1 : IntKind.i64.wrap ((i : Int) + 1) = ((i + 1 : Nat) : Int) := wrap_i64 _ (by omega) (by omega)
    obtain ⟨cp, rfl⟩ := l0.pos (by omega)
    obtain ⟨hrow, hsz⟩ := hss i ha
    obtain ⟨q, hq, hq2, hq3, hq4⟩ : ∃ q : Nat, min ((ss i).size : Int) 100 = (q : Int) ∧ q ≤ 100 ∧ q ≤ (ss i).size ∧ q = min (ss i).size 100 := ⟨min (ss i).size 100, by omega, by omega, by omega, rfl⟩
    have c5 : (0 : Int) ≤ q ∧ (q : Int) ≤ (ss i).size := by omega
    have c6 : (0 : Int) ≤ 0 ∧ (0 : Int) ≤ q := by omega
    obtain ⟨u, hu⟩ : ∃ u, (ss i).extract 0 q = u := ⟨_, rfl⟩
    have hus : u.size ≤ 100 := by rw [← hu, ByteArray.size_extract]; omega
    rw [← hq4, hu] at hnx
    have hE : appE d u = 0 := by unfold appE; rw [if_neg]; rw [z3]; omega
    have hD : appD d u = { d with late := d.late ++ [u] } := by unfold appD; rw [if_neg]; rw [z3]; omega
    have hall : d.all ++ u = ({ d with late := d.late ++ [u] } : Dk).all := (late_all d u).symm
    simp only [kSt]
    have hup : u.size = (zeros u.size).size := (zeros_size _).symm
    have hall9 : d.all.size + u.size ≤ 9223372036854775807 := by omega
    have hlate := z2
    have hsh1 := shr_at kept d.late.length (by omega)
    have hsh2 := shr_at' sync i (by omega)
    obtain ⟨kb, hkb⟩ : ∃ kb, keptB kept d.late.length = kb := ⟨_, rfl⟩
    obtain ⟨sb, hsb⟩ : ∃ sb, decide (sync / 2 ^ i % 2 = 1) = sb := ⟨_, rfl⟩
    have k1 : decide (((kept / 2 ^ d.late.length : Nat) : Int).tmod 2 = 1) = kb := by
      rw [← hkb]; unfold keptB
      rw [show ((kept / 2 ^ d.late.length : Nat) : Int).tmod 2 = ((kept / 2 ^ d.late.length % 2 : Nat) : Int) from rfl]
      exact decide_eq_decide.2 (by omega)
    have k2 : decide (((sync / 2 ^ i : Nat) : Int).tmod 2 = 1) = sb := by
      rw [← hsb]
      rw [show ((sync / 2 ^ i : Nat) : Int).tmod 2 = ((sync / 2 ^ i % 2 : Nat) : Int) from rfl]
      exact decide_eq_decide.2 (by omega)
    have p1 : (0 : Int) ≤ d.late.length := by omega
    have p2 : (0 : Int) ≤ i := by omega
    have w2 : IntKind.i64.wrap ((d.late.length : Int) + 1) = ((d.late.length + 1 : Nat) : Int) := wrap_i64 _ (by omega) (by omega)
    obtain ⟨wt, hwt⟩ : ∃ wt, crOut kept ⟨#[]⟩ d.late d.late.length = wt := ⟨_, rfl⟩
    have hwts : wt.size ≤ 2000 := by
      rw [← hwt, crOut_size _ _ _ _ (Nat.le_refl _), List.take_length]
      have := hdS
      unfold Dk.all at z1
      rw [ByteArray.size_append] at z1
      show 0 + _ ≤ _
      omega
    have hmore := crOut_more kept ⟨#[]⟩ d.late u
    rw [hwt] at hmore
    unfold crPiece at hmore
    rw [hkb] at hmore
    have hd2 : ({ d with late := d.late ++ [u] } : Dk).small := ⟨by rw [late_all, ByteArray.size_append]; omega, by simp; omega⟩
    obtain ⟨d2, hd2e⟩ : ∃ d2 : Dk, d2 = { d with late := d.late ++ [u] } := ⟨_, rfl⟩
    have e1 : d2.late.length = d.late.length + 1 := by rw [hd2e]; simp
    have e2 : d2.late = d.late ++ [u] := by rw [hd2e]
    have e3 : d2.fast = d.fast := by rw [hd2e]
    have e4 : d2.held = false := by rw [hd2e]; exact z4
    rw [← hd2e] at hD hall hd2
    rw [← e2] at hmore
    have hnx2 : kN sync ss (i + 1) = if sb then setD d2 d2.all else d2 := by
      rw [hnx]; unfold kstep
      rw [hsb, ← hd2e]
      cases sb
      · rfl
      · simp [syncD, e4]
    simp only [kSt, hwt]
    simp only [go_sem, ↓reduceIte, Nat.reduceEqDiff, Nat.reduceLT, Nat.reduceLeDiff, Nat.reduceAdd, Nat.reduceMul, Nat.reduceSub, Nat.reduceDiv, Nat.reduceMod, Int.reduceToNat, Int.reduceLT, Int.reduceLE, Int.reduceAdd, Int.reduceSub, Int.reduceMul, Int.reduceEq, Int.reduceNeg, reduceCtorEq, or_false, false_or, decide_true, decide_false, Int.cast_ofNat_Int, Nat.zero_add, Nat.add_zero, Int.toNat_natCast, Option.isNone_none, Option.isNone_some, Bool.not_true, Bool.not_false, Bool.xor_true, Bool.xor_false, Bool.true_xor, Bool.false_xor, decide_true, decide_false, Bool.and_true, Bool.true_and, Bool.and_false, Bool.false_and, eq_self, ne_eq, not_false_eq_true, not_true_eq_false, true_and, and_true, and_self, d0, d1, d3, hrow, ha, n0]
    refine sdraw0 [.t 0, .t 1, .t 2, .t 3, .t 4, .t 5, .t 6, .t 7, .t 8, .t 9, .t 10, .t 11] 12 rfl (by kernel_rfl) ?_
    simp only [go_sem, ↓reduceIte, Nat.reduceEqDiff, Nat.reduceLT, Nat.reduceLeDiff, Nat.reduceAdd, Nat.reduceMul, Nat.reduceSub, Nat.reduceDiv, Nat.reduceMod, Int.reduceToNat, Int.reduceLT, Int.reduceLE, Int.reduceAdd, Int.reduceSub, Int.reduceMul, Int.reduceEq, Int.reduceNeg, reduceCtorEq, or_false, false_or, decide_true, decide_false, Int.cast_ofNat_Int, Nat.zero_add, Nat.add_zero, Int.toNat_natCast, Option.isNone_none, Option.isNone_some, Bool.not_true, Bool.not_false, Bool.xor_true, Bool.xor_false, Bool.true_xor, Bool.false_xor, decide_true, decide_false, Bool.and_true, Bool.true_and, Bool.and_false, Bool.false_and, eq_self, ne_eq, not_false_eq_true, not_true_eq_false, true_and, and_true, and_self, d3, hrow, ha, hq, c5, c6, hu]
    refine on_call 1 (Sh := DSh d) (Sh' := DSh d2) (v := .int .i64 0) [gptr g, .string u] (.c (.v (.int .i64 0))) Try.call48 (fun w h => by have := dappend_c g d u hdS (by omega) _ w h; rw [hE, hD] at this; exact this) rfl rfl (fun _ => rfl) (fun _ => rfl) rfl fun fp1 => ?_
    cases kb
    · have hw9 : wt.size + (strB (List.replicate u.size 0)).size ≤ 9223372036854775807 := by rw [strB_zero, zeros_size]; omega
      have hmk : 1 * u.size ≤ 140737488355328 := by omega
      simp only [go_sem, ↓reduceIte, Nat.reduceEqDiff, Nat.reduceLT, Nat.reduceLeDiff, Nat.reduceAdd, Nat.reduceMul, Nat.reduceSub, Nat.reduceDiv, Nat.reduceMod, Int.reduceToNat, Int.reduceLT, Int.reduceLE, Int.reduceAdd, Int.reduceSub, Int.reduceMul, Int.reduceEq, Int.reduceNeg, reduceCtorEq, or_false, false_or, decide_true, decide_false, Int.cast_ofNat_Int, Nat.zero_add, Nat.add_zero, Int.toNat_natCast, Option.isNone_none, Option.isNone_some, Bool.not_true, Bool.not_false, Bool.xor_true, Bool.xor_false, Bool.true_xor, Bool.false_xor, decide_true, decide_false, Bool.and_true, Bool.true_and, Bool.and_false, Bool.false_and, eq_self, ne_eq, not_false_eq_true, not_true_eq_false, true_and, and_true, and_self, hall9, hall, hsh1, k1, p1]
      refine smake rfl rfl tkind84 tsz5 tby5 tz5 ⟨⟨rfl, by decide⟩, by omega, by omega⟩ ?_
      refine ⟨by show (68 : Nat) < 111; omega, ?_⟩
      have hby := byL_zero u.size 0
      have hlz : u.size ≤ u.size := Nat.le_refl _
      rw [if_neg (by simp), ← strB_zero] at hmore
      simp only [go_sem, ↓reduceIte, Nat.reduceEqDiff, Nat.reduceLT, Nat.reduceLeDiff, Nat.reduceAdd, Nat.reduceMul, Nat.reduceSub, Nat.reduceDiv, Nat.reduceMod, Int.reduceToNat, Int.reduceLT, Int.reduceLE, Int.reduceAdd, Int.reduceSub, Int.reduceMul, Int.reduceEq, Int.reduceNeg, reduceCtorEq, or_false, false_or, decide_true, decide_false, Int.cast_ofNat_Int, Nat.zero_add, Nat.add_zero, Int.toNat_natCast, Option.isNone_none, Option.isNone_some, Bool.not_true, Bool.not_false, Bool.xor_true, Bool.xor_false, Bool.true_xor, Bool.false_xor, decide_true, decide_false, Bool.and_true, Bool.true_and, Bool.and_false, Bool.false_and, eq_self, ne_eq, not_false_eq_true, not_true_eq_false, true_and, and_true, and_self, hby, hlz, hw9, w2, hsh2, k2, p2]
      cases sb
      · simp only [go_sem, ↓reduceIte, Nat.reduceEqDiff, Nat.reduceLT, Nat.reduceLeDiff, Nat.reduceAdd, Nat.reduceMul, Nat.reduceSub, Nat.reduceDiv, Nat.reduceMod, Int.reduceToNat, Int.reduceLT, Int.reduceLE, Int.reduceAdd, Int.reduceSub, Int.reduceMul, Int.reduceEq, Int.reduceNeg, reduceCtorEq, or_false, false_or, decide_true, decide_false, Int.cast_ofNat_Int, Nat.zero_add, Nat.add_zero, Int.toNat_natCast, Option.isNone_none, Option.isNone_some, Bool.not_true, Bool.not_false, Bool.xor_true, Bool.xor_false, Bool.true_xor, Bool.false_xor, decide_true, decide_false, Bool.and_true, Bool.true_and, Bool.and_false, Bool.false_and, eq_self, ne_eq, not_false_eq_true, not_true_eq_false, true_and, and_true, and_self, w1]
        refine ⟨(i + 1, fp1), ⟨by show i + 1 ≤ m0; omega, by show i + 1 ≤ 20; omega⟩, by show 20 - (i + 1) < 20 - i; omega, ?_⟩
        show Ent _ _ (kSt 0 _ m0 r0 sync kept g (kN sync ss (i + 1)) (i + 1) fp1)
        rw [hnx2, if_neg (by simp)]
        unfold kSt
        rw [e1, hmore, e3]
        exact ent_low ⟨rfl, rfl, rfl, rfl, rfl, rfl, rfl, rfl, rfl, rfl, trivial⟩ ⟨rfl, rfl, trivial⟩ (by simp) (by simp [frBl, SV.bl, CV.bl]) (by simp [hpBl, Blk.bl, blL_v]) (by simp)
      · simp only [go_sem, ↓reduceIte, Nat.reduceEqDiff, Nat.reduceLT, Nat.reduceLeDiff, Nat.reduceAdd, Nat.reduceMul, Nat.reduceSub, Nat.reduceDiv, Nat.reduceMod, Int.reduceToNat, Int.reduceLT, Int.reduceLE, Int.reduceAdd, Int.reduceSub, Int.reduceMul, Int.reduceEq, Int.reduceNeg, reduceCtorEq, or_false, false_or, decide_true, decide_false, Int.cast_ofNat_Int, Nat.zero_add, Nat.add_zero, Int.toNat_natCast, Option.isNone_none, Option.isNone_some, Bool.not_true, Bool.not_false, Bool.xor_true, Bool.xor_false, Bool.true_xor, Bool.false_xor, decide_true, decide_false, Bool.and_true, Bool.true_and, Bool.and_false, Bool.false_and, eq_self, ne_eq, not_false_eq_true, not_true_eq_false, true_and, and_true, and_self]
        refine on_call 1 (Sh := DSh d2) (Sh' := DSh (setD d2 d2.all)) (v := .tuple #[]) [gptr g] (.tup []) Try.call49 (fun w h => by have := dsync_c g d2 hd2 _ w h; rw [show syncD d2 = setD d2 d2.all by simp [syncD, e4]] at this; exact this) rfl rfl (fun _ => rfl) (fun _ => rfl) rfl fun fp2 => ?_
        simp only [go_sem, ↓reduceIte, Nat.reduceEqDiff, Nat.reduceLT, Nat.reduceLeDiff, Nat.reduceAdd, Nat.reduceMul, Nat.reduceSub, Nat.reduceDiv, Nat.reduceMod, Int.reduceToNat, Int.reduceLT, Int.reduceLE, Int.reduceAdd, Int.reduceSub, Int.reduceMul, Int.reduceEq, Int.reduceNeg, reduceCtorEq, or_false, false_or, decide_true, decide_false, Int.cast_ofNat_Int, Nat.zero_add, Nat.add_zero, Int.toNat_natCast, Option.isNone_none, Option.isNone_some, Bool.not_true, Bool.not_false, Bool.xor_true, Bool.xor_false, Bool.true_xor, Bool.false_xor, decide_true, decide_false, Bool.and_true, Bool.true_and, Bool.and_false, Bool.false_and, eq_self, ne_eq, not_false_eq_true, not_true_eq_false, true_and, and_true, and_self, w1]
        refine ⟨(i + 1, fp2), ⟨by show i + 1 ≤ m0; omega, by show i + 1 ≤ 20; omega⟩, by show 20 - (i + 1) < 20 - i; omega, ?_⟩
        show Ent _ _ (kSt 0 _ m0 r0 sync kept g (kN sync ss (i + 1)) (i + 1) fp2)
        rw [hnx2, if_pos rfl]
        unfold kSt
        rw [setD_all]
        exact ent_low ⟨rfl, rfl, rfl, rfl, rfl, rfl, rfl, rfl, rfl, rfl, trivial⟩ ⟨rfl, rfl, trivial⟩ (by simp) (by simp [frBl, SV.bl, CV.bl]) (by simp [hpBl, Blk.bl, blL_v]) (by simp)
    · have hw9 : wt.size + u.size ≤ 9223372036854775807 := by omega
      rw [if_pos rfl] at hmore
      simp only [go_sem, ↓reduceIte, Nat.reduceEqDiff, Nat.reduceLT, Nat.reduceLeDiff, Nat.reduceAdd, Nat.reduceMul, Nat.reduceSub, Nat.reduceDiv, Nat.reduceMod, Int.reduceToNat, Int.reduceLT, Int.reduceLE, Int.reduceAdd, Int.reduceSub, Int.reduceMul, Int.reduceEq, Int.reduceNeg, reduceCtorEq, or_false, false_or, decide_true, decide_false, Int.cast_ofNat_Int, Nat.zero_add, Nat.add_zero, Int.toNat_natCast, Option.isNone_none, Option.isNone_some, Bool.not_true, Bool.not_false, Bool.xor_true, Bool.xor_false, Bool.true_xor, Bool.false_xor, decide_true, decide_false, Bool.and_true, Bool.true_and, Bool.and_false, Bool.false_and, eq_self, ne_eq, not_false_eq_true, not_true_eq_false, true_and, and_true, and_self, hall9, hall, hsh1, k1, p1, hw9, w2, hsh2, k2, p2]
      cases sb
      · simp only [go_sem, ↓reduceIte, Nat.reduceEqDiff, Nat.reduceLT, Nat.reduceLeDiff, Nat.reduceAdd, Nat.reduceMul, Nat.reduceSub, Nat.reduceDiv, Nat.reduceMod, Int.reduceToNat, Int.reduceLT, Int.reduceLE, Int.reduceAdd, Int.reduceSub, Int.reduceMul, Int.reduceEq, Int.reduceNeg, reduceCtorEq, or_false, false_or, decide_true, decide_false, Int.cast_ofNat_Int, Nat.zero_add, Nat.add_zero, Int.toNat_natCast, Option.isNone_none, Option.isNone_some, Bool.not_true, Bool.not_false, Bool.xor_true, Bool.xor_false, Bool.true_xor, Bool.false_xor, decide_true, decide_false, Bool.and_true, Bool.true_and, Bool.and_false, Bool.false_and, eq_self, ne_eq, not_false_eq_true, not_true_eq_false, true_and, and_true, and_self, w1]
        refine ⟨(i + 1, fp1), ⟨by show i + 1 ≤ m0; omega, by show i + 1 ≤ 20; omega⟩, by show 20 - (i + 1) < 20 - i; omega, ?_⟩
        show Ent _ _ (kSt 0 _ m0 r0 sync kept g (kN sync ss (i + 1)) (i + 1) fp1)
        rw [hnx2, if_neg (by simp)]
        unfold kSt
        rw [e1, hmore, e3]
        exact ent_low ⟨rfl, rfl, rfl, rfl, rfl, rfl, rfl, rfl, rfl, rfl, trivial⟩ ⟨rfl, rfl, trivial⟩ (by simp) (by simp [frBl, SV.bl, CV.bl]) (by simp [hpBl, Blk.bl, blL_v]) (by simp)
      · simp only [go_sem, ↓reduceIte, Nat.reduceEqDiff, Nat.reduceLT, Nat.reduceLeDiff, Nat.reduceAdd, Nat.reduceMul, Nat.reduceSub, Nat.reduceDiv, Nat.reduceMod, Int.reduceToNat, Int.reduceLT, Int.reduceLE, Int.reduceAdd, Int.reduceSub, Int.reduceMul, Int.reduceEq, Int.reduceNeg, reduceCtorEq, or_false, false_or, decide_true, decide_false, Int.cast_ofNat_Int, Nat.zero_add, Nat.add_zero, Int.toNat_natCast, Option.isNone_none, Option.isNone_some, Bool.not_true, Bool.not_false, Bool.xor_true, Bool.xor_false, Bool.true_xor, Bool.false_xor, decide_true, decide_false, Bool.and_true, Bool.true_and, Bool.and_false, Bool.false_and, eq_self, ne_eq, not_false_eq_true, not_true_eq_false, true_and, and_true, and_self]
        refine on_call 1 (Sh := DSh d2) (Sh' := DSh (setD d2 d2.all)) (v := .tuple #[]) [gptr g] (.tup []) Try.call49 (fun w h => by have := dsync_c g d2 hd2 _ w h; rw [show syncD d2 = setD d2 d2.all by simp [syncD, e4]] at this; exact this) rfl rfl (fun _ => rfl) (fun _ => rfl) rfl fun fp2 => ?_
        simp only [go_sem, ↓reduceIte, Nat.reduceEqDiff, Nat.reduceLT, Nat.reduceLeDiff, Nat.reduceAdd, Nat.reduceMul, Nat.reduceSub, Nat.reduceDiv, Nat.reduceMod, Int.reduceToNat, Int.reduceLT, Int.reduceLE, Int.reduceAdd, Int.reduceSub, Int.reduceMul, Int.reduceEq, Int.reduceNeg, reduceCtorEq, or_false, false_or, decide_true, decide_false, Int.cast_ofNat_Int, Nat.zero_add, Nat.add_zero, Int.toNat_natCast, Option.isNone_none, Option.isNone_some, Bool.not_true, Bool.not_false, Bool.xor_true, Bool.xor_false, Bool.true_xor, Bool.false_xor, decide_true, decide_false, Bool.and_true, Bool.true_and, Bool.and_false, Bool.false_and, eq_self, ne_eq, not_false_eq_true, not_true_eq_false, true_and, and_true, and_self, w1]
        refine ⟨(i + 1, fp2), ⟨by show i + 1 ≤ m0; omega, by show i + 1 ≤ 20; omega⟩, by show 20 - (i + 1) < 20 - i; omega, ?_⟩
        show Ent _ _ (kSt 0 _ m0 r0 sync kept g (kN sync ss (i + 1)) (i + 1) fp2)
        rw [hnx2, if_pos rfl]
        unfold kSt
        rw [setD_all]
        exact ent_low ⟨rfl, rfl, rfl, rfl, rfl, rfl, rfl, rfl, rfl, rfl, trivial⟩ ⟨rfl, rfl, trivial⟩ (by simp) (by simp [frBl, SV.bl, CV.bl]) (by simp [hpBl, Blk.bl, blL_v]) (by simp)
  · have hend : i = m0 ∨ i = 20 := by omega
    obtain ⟨b1, b2, d0, d1⟩ : ∃ b1 b2, decide ((i : Int) < m0) = b1 ∧ decide ((i : Int) < 20) = b2 := ⟨_, _, rfl, rfl⟩
    have hb12 : (b1 && b2) = false := by rw [← d0, ← d1]; simp; omega
    have hlate := z2
    have hmore := crOut_e kept d.fast d.late d.late.length
    have hcs := crOut_size kept d.fast d.late d.late.length (Nat.le_refl _)
    rw [List.take_length] at hcs
    have hal : d.all.size = d.fast.size + (cat d.late).size := by unfold Dk.all; rw [ByteArray.size_append]
    obtain ⟨wt, hwt⟩ : ∃ wt, crOut kept ⟨#[]⟩ d.late d.late.length = wt := ⟨_, rfl⟩
    rw [hwt] at hmore
    obtain ⟨d2, hd2⟩ : ∃ d2, crD d kept = d2 := ⟨_, rfl⟩
    have e1 : d2.all = d.fast ++ wt := by rw [← hd2]; unfold crD; rw [setD_all, hmore]
    have e2 : (d2.fast.size : Int) = d.all.size := by rw [← hd2]; show ((crOut kept d.fast d.late d.late.length).size : Int) = _; omega
    have hd2s : d2.small := by
      rw [← hd2]
      exact ⟨by unfold crD; rw [setD_all]; omega, Nat.zero_le _⟩
    have hw9 : d.fast.size + wt.size ≤ 9223372036854775807 := by
      have := congrArg ByteArray.size hmore
      rw [ByteArray.size_append] at this; omega
    simp only [kSt, hwt]
    cases b1 <;> cases b2 <;> first | cases hb12 | skip
    all_goals
      simp only [go_sem, ↓reduceIte, Nat.reduceEqDiff, Nat.reduceLT, Nat.reduceLeDiff, Nat.reduceAdd, Nat.reduceMul, Nat.reduceSub, Nat.reduceDiv, Nat.reduceMod, Int.reduceToNat, Int.reduceLT, Int.reduceLE, Int.reduceAdd, Int.reduceSub, Int.reduceMul, Int.reduceEq, Int.reduceNeg, reduceCtorEq, or_false, false_or, decide_true, decide_false, Int.cast_ofNat_Int, Nat.zero_add, Nat.add_zero, Int.toNat_natCast, Option.isNone_none, Option.isNone_some, Bool.not_true, Bool.not_false, Bool.xor_true, Bool.xor_false, Bool.true_xor, Bool.false_xor, decide_true, decide_false, Bool.and_true, Bool.true_and, Bool.and_false, Bool.false_and, eq_self, ne_eq, not_false_eq_true, not_true_eq_false, true_and, and_true, and_self, d0, d1, n0]
      refine on_callk 1 (Sh := DSh d) (v := .string d.all) [gptr g] (.c (.v (.string d.all))) Try.call50 (fun w h => dbytes_c g d hdS _ w h) rfl rfl (fun _ => rfl) (fun _ => rfl) rfl ?_
      simp only [go_sem, ↓reduceIte, Nat.reduceEqDiff, Nat.reduceLT, Nat.reduceLeDiff, Nat.reduceAdd, Nat.reduceMul, Nat.reduceSub, Nat.reduceDiv, Nat.reduceMod, Int.reduceToNat, Int.reduceLT, Int.reduceLE, Int.reduceAdd, Int.reduceSub, Int.reduceMul, Int.reduceEq, Int.reduceNeg, reduceCtorEq, or_false, false_or, decide_true, decide_false, Int.cast_ofNat_Int, Nat.zero_add, Nat.add_zero, Int.toNat_natCast, Option.isNone_none, Option.isNone_some, Bool.not_true, Bool.not_false, Bool.xor_true, Bool.xor_false, Bool.true_xor, Bool.false_xor, decide_true, decide_false, Bool.and_true, Bool.true_and, Bool.and_false, Bool.false_and, eq_self, ne_eq, not_false_eq_true, not_true_eq_false, true_and, and_true, and_self]
      refine on_callk 1 (Sh := DSh d) (v := .int .i64 d.fast.size) [gptr g] (.c (.v (.int .i64 d.fast.size))) Try.call51 (fun w h => dsynced_c g d _ w h) rfl rfl (fun _ => rfl) (fun _ => rfl) rfl ?_
      simp only [go_sem, ↓reduceIte, Nat.reduceEqDiff, Nat.reduceLT, Nat.reduceLeDiff, Nat.reduceAdd, Nat.reduceMul, Nat.reduceSub, Nat.reduceDiv, Nat.reduceMod, Int.reduceToNat, Int.reduceLT, Int.reduceLE, Int.reduceAdd, Int.reduceSub, Int.reduceMul, Int.reduceEq, Int.reduceNeg, reduceCtorEq, or_false, false_or, decide_true, decide_false, Int.cast_ofNat_Int, Nat.zero_add, Nat.add_zero, Int.toNat_natCast, Option.isNone_none, Option.isNone_some, Bool.not_true, Bool.not_false, Bool.xor_true, Bool.xor_false, Bool.true_xor, Bool.false_xor, decide_true, decide_false, Bool.and_true, Bool.true_and, Bool.and_false, Bool.false_and, eq_self, ne_eq, not_false_eq_true, not_true_eq_false, true_and, and_true, and_self]
      refine on_call 1 (Sh := DSh d) (Sh' := DSh d2) (v := .tuple #[]) [gptr g, .int .u64 kept] (.tup []) Try.call52 (fun w h => by have := dcrash_c g d kept hkept hdS _ w h; rw [hd2] at this; exact this) rfl rfl (fun _ => rfl) (fun _ => rfl) rfl fun fp2 => ?_
      simp only [go_sem, ↓reduceIte, Nat.reduceEqDiff, Nat.reduceLT, Nat.reduceLeDiff, Nat.reduceAdd, Nat.reduceMul, Nat.reduceSub, Nat.reduceDiv, Nat.reduceMod, Int.reduceToNat, Int.reduceLT, Int.reduceLE, Int.reduceAdd, Int.reduceSub, Int.reduceMul, Int.reduceEq, Int.reduceNeg, reduceCtorEq, or_false, false_or, decide_true, decide_false, Int.cast_ofNat_Int, Nat.zero_add, Nat.add_zero, Int.toNat_natCast, Option.isNone_none, Option.isNone_some, Bool.not_true, Bool.not_false, Bool.xor_true, Bool.xor_false, Bool.true_xor, Bool.false_xor, decide_true, decide_false, Bool.and_true, Bool.true_and, Bool.and_false, Bool.false_and, eq_self, ne_eq, not_false_eq_true, not_true_eq_false, true_and, and_true, and_self]
      refine on_callk 1 (Sh := DSh d2) (v := .string (d.fast ++ wt)) [gptr g] (.c (.v (.string (d.fast ++ wt)))) Try.call50 (fun w h => by have := dbytes_c g d2 hd2s _ w h; rw [e1] at this; exact this) rfl rfl (fun _ => rfl) (fun _ => rfl) rfl ?_
      simp only [go_sem, ↓reduceIte, Nat.reduceEqDiff, Nat.reduceLT, Nat.reduceLeDiff, Nat.reduceAdd, Nat.reduceMul, Nat.reduceSub, Nat.reduceDiv, Nat.reduceMod, Int.reduceToNat, Int.reduceLT, Int.reduceLE, Int.reduceAdd, Int.reduceSub, Int.reduceMul, Int.reduceEq, Int.reduceNeg, reduceCtorEq, or_false, false_or, decide_true, decide_false, Int.cast_ofNat_Int, Nat.zero_add, Nat.add_zero, Int.toNat_natCast, Option.isNone_none, Option.isNone_some, Bool.not_true, Bool.not_false, Bool.xor_true, Bool.xor_false, Bool.true_xor, Bool.false_xor, decide_true, decide_false, Bool.and_true, Bool.true_and, Bool.and_false, Bool.false_and, eq_self, ne_eq, not_false_eq_true, not_true_eq_false, true_and, and_true, and_self, hw9]
      refine on_callk 1 (Sh := DSh d2) (v := .int .i64 d.all.size) [gptr g] (.c (.v (.int .i64 d.all.size))) Try.call51 (fun w h => by have := dsynced_c g d2 _ w h; rw [e2] at this; exact this) rfl rfl (fun _ => rfl) (fun _ => rfl) rfl ?_
      simp only [go_sem, ↓reduceIte, Nat.reduceEqDiff, Nat.reduceLT, Nat.reduceLeDiff, Nat.reduceAdd, Nat.reduceMul, Nat.reduceSub, Nat.reduceDiv, Nat.reduceMod, Int.reduceToNat, Int.reduceLT, Int.reduceLE, Int.reduceAdd, Int.reduceSub, Int.reduceMul, Int.reduceEq, Int.reduceNeg, reduceCtorEq, or_false, false_or, decide_true, decide_false, Int.cast_ofNat_Int, Nat.zero_add, Nat.add_zero, Int.toNat_natCast, Option.isNone_none, Option.isNone_some, Bool.not_true, Bool.not_false, Bool.xor_true, Bool.xor_false, Bool.true_xor, Bool.false_xor, decide_true, decide_false, Bool.and_true, Bool.true_and, Bool.and_false, Bool.false_and, eq_self, ne_eq, not_false_eq_true, not_true_eq_false, true_and, and_true, and_self]
      exact fun ρ a w hs _ => ⟨rfl, hs.grown⟩
end Go.Proofs.Ytfokingbglkmjaa
