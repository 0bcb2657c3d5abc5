/-
  The document's tokens: they are minted and opened as the keeper's. Conditions: none.
-/
import Derived.Test.YtbdffcgbleiiaaaRPack
import Derived.Test.YtbdffcgbleiiaaaRSha5
import Derived.Test.YtbdffcgbleiiaaaMac6
namespace Go.Proofs.Ytbdffcgbleiiaaa
open Go.RowKit Go.Sx Go.Sha Go.Pk
set_option linter.unusedVariables false
set_option linter.unusedSimpArgs false

theorem be_snoc (n b : Nat) (hb : b < 256) : ∀ k, be (n * 256 + b) (k + 1) = be n k ++ [b]
  | 0 => by
    show [(n * 256 + b) / 256 ^ 0 % 256] = [b]
    rw [Nat.pow_zero, Nat.div_one]; congr 1; omega
  | k + 1 => by
    show (n * 256 + b) / 256 ^ (k + 1) % 256 :: be (n * 256 + b) (k + 1) = (n / 256 ^ k % 256 :: be n k) ++ [b]
    rw [be_snoc n b hb k, Nat.pow_succ, Nat.mul_comm (256 ^ k) 256, ← Nat.div_div_eq_div_mul, show (n * 256 + b) / 256 = n by omega]; rfl
theorem or_add {n b : Nat} (hb : b < 256) : n * 256 ||| b = n * 256 + b := by
  have := Nat.two_pow_add_eq_or_of_lt (i := 8) hb n
  rw [Nat.mul_comm]; exact this.symm
theorem val_app (l : List Nat) (b : Nat) : val (l ++ [b]) = o64 (sl64 (val l) 8) b := by unfold val; rw [List.foldl_append]; rfl
theorem val_be : ∀ (k : Nat) (l : List Nat), l.length = k → k ≤ 8 → (∀ x, x ∈ l → x < 256) → be (val l) k = l ∧ val l < 256 ^ k
  | 0, l, hl, _, _ => by
    obtain rfl := List.eq_nil_of_length_eq_zero hl
    exact ⟨rfl, by decide⟩
  | k + 1, l, hl, hk, hx => by
    obtain ⟨q, b, rfl⟩ : ∃ q b, l = q ++ [b] := ⟨l.dropLast, l.getLast (by intro h; rw [h] at hl; simp at hl), (List.dropLast_concat_getLast _).symm⟩
    have hq : q.length = k := by simpa using hl
    obtain ⟨h1, h2⟩ := val_be k q hq (by omega) fun x h => hx x (List.mem_append.2 (.inl h))
    have hb := hx b (by simp)
    have h3 : 256 ^ k ≤ 256 ^ 7 := Nat.pow_le_pow_right (by omega) (by omega)
    have h4 : (256 : Nat) ^ 7 = 72057594037927936 := by decide
    have hv : val (q ++ [b]) = val q * 256 + b := by
      rw [val_app]
      unfold o64 sl64
      rw [show (2 : Nat) ^ 8 = 256 from rfl, Nat.mod_eq_of_lt (a := val q * 256) (by omega), or_add hb]
      omega
    rw [hv, be_snoc _ _ hb, h1]
    refine ⟨rfl, ?_⟩
    rw [Nat.pow_succ]; omega
theorem numR_inv {r : Rd} (hr : r.ok) {k : Nat} (hk : k ≤ 8) (h : (numR r k).2.bad = false) : r.bad = false ∧ r.rest = be (numR r k).1 k ++ (numR r k).2.rest ∧ (numR r k).1 < 256 ^ k := by
  unfold numR at h ⊢
  by_cases hc : r.bad = true ∨ r.rest.length < k
  · rw [if_pos hc] at h; cases h
  · rw [if_neg hc]
    obtain ⟨h1, h2⟩ := val_be k (r.rest.take k) (by simp; omega) hk fun x hx => hr x (List.mem_of_mem_take hx)
    refine ⟨?_, ?_, h2⟩
    · cases hb : r.bad
      · rfl
      · exact absurd (.inl hb) hc
    · show r.rest = be (val (r.rest.take k)) k ++ r.rest.drop k
      rw [h1, List.take_append_drop]
theorem varGo_inv (R : List Nat) : ∀ f k n, (varGo R f k n).2.bad = false → R = vary (varGo R f k n).1 ++ (varGo R f k n).2.rest
  | 0, _, _, h => by cases h
  | f + 1, k, n, h => by
    rw [varGo] at h ⊢
    cases hb : R[k]? with
    | none => rw [hb] at h; cases h
    | some b =>
      rw [hb] at h
      dsimp only at h ⊢
      by_cases h1 : 128 ≤ b
      · rw [if_pos h1] at h ⊢
        exact varGo_inv R f _ _ h
      · rw [if_neg h1] at h ⊢
        by_cases h2 : R.take (k + 1) = vary (o64 n (sl64 (b % 128) (7 * k)))
        · rw [if_pos h2]
          show R = vary (o64 n (sl64 (b % 128) (7 * k))) ++ R.drop (k + 1)
          rw [← h2, List.take_append_drop]
        · rw [if_neg h2] at h; cases h
theorem varR_inv {r : Rd} (h : (varR r).2.bad = false) : r.bad = false ∧ r.rest = vary (varR r).1 ++ (varR r).2.rest := by
  unfold varR at h ⊢
  cases hb : r.bad
  · rw [hb] at h
    rw [if_neg (by simp)] at h ⊢
    exact ⟨rfl, varGo_inv _ _ _ _ h⟩
  · rw [hb, if_pos rfl] at h; cases h
theorem txtR_inv {r : Rd} {m : Nat} (h : (txtR r m).2.bad = false) : r.bad = false ∧ r.rest = (vary (txtR r m).1.length ++ (txtR r m).1) ++ (txtR r m).2.rest := by
  unfold txtR at h ⊢
  by_cases hc : (varR r).2.bad = true ∨ min m (varR r).2.rest.length < (varR r).1
  · rw [if_pos hc] at h; cases h
  · rw [if_neg hc]
    have hb : (varR r).2.bad = false := by
      cases hb : (varR r).2.bad
      · rfl
      · exact absurd (.inl hb) hc
    obtain ⟨h1, h2⟩ := varR_inv hb
    refine ⟨h1, ?_⟩
    show r.rest = (vary ((varR r).2.rest.take (varR r).1).length ++ (varR r).2.rest.take (varR r).1) ++ (varR r).2.rest.drop (varR r).1
    have hl : ((varR r).2.rest.take (varR r).1).length = (varR r).1 := by
      simp only [not_or, Nat.not_lt] at hc
      simp; omega
    rw [hl, List.append_assoc, List.take_append_drop, ← h2]
/-- What was read whole is what was written. -/
theorem read_plain {S : List Nat} (hS : ∀ x, x ∈ S → x < 256) (h : (o4 S).2.bad = false) : S = plainL (otk S) ++ (o4 S).2.rest := by
  have k1 : (o1 S).2.ok := numR_ok (r := ⟨S, false⟩) hS 1
  obtain ⟨k2, b2⟩ : (o2 S).2.ok ∧ ∀ x, x ∈ (o2 S).1 → x < 256 := txtR_ok k1 16
  have k3 : (o3 S).2.ok := numR_ok k2 1
  obtain ⟨e4, r4, l4⟩ := numR_inv (k := 8) k3 (by omega) h
  obtain ⟨e3, r3, l3⟩ := numR_inv (k := 1) k2 (by omega) e4
  obtain ⟨e2, r2⟩ := txtR_inv (r := (o1 S).2) (m := 16) e3
  obtain ⟨e1, r1, l1⟩ := numR_inv (r := ⟨S, false⟩) (k := 1) hS (by omega) e2
  have l1 : (o1 S).1 < 256 := l1
  have l3 : (o3 S).1 < 256 := l3
  have w1 : IntKind.i64.wrap ((o1 S).1 : Int) = ((o1 S).1 : Int) := wrapI64 (by omega) (by omega)
  have w3 : IntKind.i64.wrap ((o3 S).1 : Int) = ((o3 S).1 : Int) := wrapI64 (by omega) (by omega)
  have hsz : (strN (o2 S).1).size = (o2 S).1.length := strN_size _
  have hbl : bl (strN (o2 S).1) = (o2 S).1 := bl_strN b2
  unfold plainL otk
  dsimp only
  rw [w1, w3, Int.toNat_natCast, Int.toNat_natCast, hsz, hbl]
  have r1 : S = be (o1 S).1 1 ++ (o1 S).2.rest := r1
  have r2 : (o1 S).2.rest = (vary (o2 S).1.length ++ (o2 S).1) ++ (o2 S).2.rest := r2
  have r3 : (o2 S).2.rest = be (o3 S).1 1 ++ (o3 S).2.rest := r3
  have r4 : (o3 S).2.rest = be (o4 S).1 8 ++ (o4 S).2.rest := r4
  rw [List.append_assoc, ← r4, List.append_assoc, ← r3, List.append_assoc, ← r2]
  exact r1
theorem take_front {S P Q : List Nat} (h : S = P ++ Q) (hq : Q.length = 32) : S.take (S.length - 32) = P := by
  subst h; rw [List.length_append, hq, Nat.add_sub_cancel, List.take_left]
/-- The document's rule: it is short, it is read whole, and minted again it is the same. -/
def rOk (k S : List Nat) (now : Nat) : Bool := !decide (100 < S.length) && (!(o4 S).2.bad && (decide (now < (o4 S).1) && ((otk S).right && decide (mintL k (otk S) = S))))
theorem rOk_eq {k S : List Nat} (hS : ∀ x, x ∈ S → x < 256) (now : Nat) : rOk k S now = oOk k S now := by
  cases hb : (o4 S).2.bad
  case true => unfold rOk oOk; rw [hb]; simp
  have hp := read_plain hS hb
  rw [Bool.eq_iff_iff]
  unfold rOk oOk
  rw [hb]
  simp only [Bool.and_eq_true, Bool.not_eq_true', decide_eq_false_iff_not, decide_eq_true_eq, Bool.not_false, true_and]
  have hln : S.length = (plainL (otk S)).length + (o4 S).2.rest.length := by rw [← List.length_append, ← hp]
  have hpl := plainL_len (otk S)
  have hvl : (vary (otk S).bk.size).length ≤ 11 := varyF_len 10 _
  constructor
  · rintro ⟨h1, h2, h3, h4⟩
    have hr : hmL k (plainL (otk S)) = (o4 S).2.rest := by
      have h5 : plainL (otk S) ++ hmL k (plainL (otk S)) = plainL (otk S) ++ (o4 S).2.rest := h4.trans hp
      exact List.append_cancel_left h5
    have h32 : (o4 S).2.rest.length = 32 := by rw [← hr, hmL_len]
    have ht : S.take (S.length - 32) = plainL (otk S) := take_front hp h32
    exact ⟨h32, h3, h2, by rw [ht]; exact hr⟩
  · rintro ⟨h32, h3, h2, hr⟩
    have ht : S.take (S.length - 32) = plainL (otk S) := take_front hp h32
    rw [ht] at hr
    have h16 := (Tk.right_iff.1 h3).2.2.1
    refine ⟨by omega, h2, h3, ?_⟩
    unfold mintL
    rw [hr]; exact hp.symm
theorem size_ne (b : ByteArray) : decide (1 ≤ (b.size : Int)) = !decide (b = ⟨#[]⟩) := by
  by_cases h : b = ⟨#[]⟩
  · subst h; rfl
  · rw [decide_eq_false h]
    have : b.size ≠ 0 := fun e => h (by
      apply bl_inj
      have : (bl b).length = 0 := by rw [bl_len, e]
      rw [List.eq_nil_of_length_eq_zero this]; rfl)
    exact decide_eq_true (by omega)
set_option maxRecDepth 100000 in
theorem rtright_c (t : Tk) (w : World) : Calls Try.prog 47 #[t.v] w fun e w' => e = .returned (.bool t.right) ∧ Below w.heap.size w w' := by
  refine calls_pure 33 _ Try.func47 rfl Try.ntmps47 Try.results47 [.agg t.c] (by simp) (fun _ => rfl) ?_
  unfold Tk.right
  have h0 := size_ne t.bk
  obtain ⟨b1, h1⟩ : ∃ b, decide (1 ≤ t.tn) = b := ⟨_, rfl⟩
  obtain ⟨b2, h2⟩ : ∃ b, decide (t.tn ≤ 8) = b := ⟨_, rfl⟩
  obtain ⟨b3, h3⟩ : ∃ b, decide (t.bk = ⟨#[]⟩) = b := ⟨_, rfl⟩
  obtain ⟨b4, h4⟩ : ∃ b, decide ((t.bk.size : Int) ≤ 16) = b := ⟨_, rfl⟩
  obtain ⟨b5, h5⟩ : ∃ b, decide (1 ≤ t.rt) = b := ⟨_, rfl⟩
  obtain ⟨b6, h6⟩ : ∃ b, decide (t.rt ≤ 3) = b := ⟨_, rfl⟩
  rw [h3] at h0
  rw [h1, h2, h3, h4, h5, h6]
  cases b1
  · simp only [go_sem, ↓reduceIte, Nat.reduceEqDiff, Nat.reduceLT, Nat.reduceLeDiff, Nat.reduceAdd, Nat.reduceMul, Nat.reduceSub, Nat.reduceDiv, Nat.reduceMod, Int.reduceToNat, Int.reduceLT, Int.reduceLE, Int.reduceAdd, Int.reduceSub, Int.reduceMul, Int.reduceEq, Int.reduceNeg, reduceCtorEq, or_false, false_or, decide_true, decide_false, Int.cast_ofNat_Int, Nat.zero_add, Nat.add_zero, Int.toNat_natCast, Option.isNone_none, Option.isNone_some, Bool.not_true, Bool.not_false, Bool.xor_true, Bool.xor_false, Bool.true_xor, Bool.false_xor, decide_true, decide_false, Bool.and_true, Bool.true_and, Bool.and_false, Bool.false_and, eq_self, ne_eq, not_false_eq_true, not_true_eq_false, true_and, and_true, and_self, h1]
    exact fun ρ a w hs _ => ⟨rfl, hs.grown⟩
  cases b2
  · simp only [go_sem, ↓reduceIte, Nat.reduceEqDiff, Nat.reduceLT, Nat.reduceLeDiff, Nat.reduceAdd, Nat.reduceMul, Nat.reduceSub, Nat.reduceDiv, Nat.reduceMod, Int.reduceToNat, Int.reduceLT, Int.reduceLE, Int.reduceAdd, Int.reduceSub, Int.reduceMul, Int.reduceEq, Int.reduceNeg, reduceCtorEq, or_false, false_or, decide_true, decide_false, Int.cast_ofNat_Int, Nat.zero_add, Nat.add_zero, Int.toNat_natCast, Option.isNone_none, Option.isNone_some, Bool.not_true, Bool.not_false, Bool.xor_true, Bool.xor_false, Bool.true_xor, Bool.false_xor, decide_true, decide_false, Bool.and_true, Bool.true_and, Bool.and_false, Bool.false_and, eq_self, ne_eq, not_false_eq_true, not_true_eq_false, true_and, and_true, and_self, h1, h2]
    exact fun ρ a w hs _ => ⟨rfl, hs.grown⟩
  cases b3
  case true =>
    simp only [go_sem, ↓reduceIte, Nat.reduceEqDiff, Nat.reduceLT, Nat.reduceLeDiff, Nat.reduceAdd, Nat.reduceMul, Nat.reduceSub, Nat.reduceDiv, Nat.reduceMod, Int.reduceToNat, Int.reduceLT, Int.reduceLE, Int.reduceAdd, Int.reduceSub, Int.reduceMul, Int.reduceEq, Int.reduceNeg, reduceCtorEq, or_false, false_or, decide_true, decide_false, Int.cast_ofNat_Int, Nat.zero_add, Nat.add_zero, Int.toNat_natCast, Option.isNone_none, Option.isNone_some, Bool.not_true, Bool.not_false, Bool.xor_true, Bool.xor_false, Bool.true_xor, Bool.false_xor, decide_true, decide_false, Bool.and_true, Bool.true_and, Bool.and_false, Bool.false_and, eq_self, ne_eq, not_false_eq_true, not_true_eq_false, true_and, and_true, and_self, h1, h2, h0]
    exact fun ρ a w hs _ => ⟨rfl, hs.grown⟩
  cases b4
  · simp only [go_sem, ↓reduceIte, Nat.reduceEqDiff, Nat.reduceLT, Nat.reduceLeDiff, Nat.reduceAdd, Nat.reduceMul, Nat.reduceSub, Nat.reduceDiv, Nat.reduceMod, Int.reduceToNat, Int.reduceLT, Int.reduceLE, Int.reduceAdd, Int.reduceSub, Int.reduceMul, Int.reduceEq, Int.reduceNeg, reduceCtorEq, or_false, false_or, decide_true, decide_false, Int.cast_ofNat_Int, Nat.zero_add, Nat.add_zero, Int.toNat_natCast, Option.isNone_none, Option.isNone_some, Bool.not_true, Bool.not_false, Bool.xor_true, Bool.xor_false, Bool.true_xor, Bool.false_xor, decide_true, decide_false, Bool.and_true, Bool.true_and, Bool.and_false, Bool.false_and, eq_self, ne_eq, not_false_eq_true, not_true_eq_false, true_and, and_true, and_self, h1, h2, h0, h4]
    exact fun ρ a w hs _ => ⟨rfl, hs.grown⟩
  cases b5
  · simp only [go_sem, ↓reduceIte, Nat.reduceEqDiff, Nat.reduceLT, Nat.reduceLeDiff, Nat.reduceAdd, Nat.reduceMul, Nat.reduceSub, Nat.reduceDiv, Nat.reduceMod, Int.reduceToNat, Int.reduceLT, Int.reduceLE, Int.reduceAdd, Int.reduceSub, Int.reduceMul, Int.reduceEq, Int.reduceNeg, reduceCtorEq, or_false, false_or, decide_true, decide_false, Int.cast_ofNat_Int, Nat.zero_add, Nat.add_zero, Int.toNat_natCast, Option.isNone_none, Option.isNone_some, Bool.not_true, Bool.not_false, Bool.xor_true, Bool.xor_false, Bool.true_xor, Bool.false_xor, decide_true, decide_false, Bool.and_true, Bool.true_and, Bool.and_false, Bool.false_and, eq_self, ne_eq, not_false_eq_true, not_true_eq_false, true_and, and_true, and_self, h1, h2, h0, h4, h5]
    exact fun ρ a w hs _ => ⟨rfl, hs.grown⟩
  · simp only [go_sem, ↓reduceIte, Nat.reduceEqDiff, Nat.reduceLT, Nat.reduceLeDiff, Nat.reduceAdd, Nat.reduceMul, Nat.reduceSub, Nat.reduceDiv, Nat.reduceMod, Int.reduceToNat, Int.reduceLT, Int.reduceLE, Int.reduceAdd, Int.reduceSub, Int.reduceMul, Int.reduceEq, Int.reduceNeg, reduceCtorEq, or_false, false_or, decide_true, decide_false, Int.cast_ofNat_Int, Nat.zero_add, Nat.add_zero, Int.toNat_natCast, Option.isNone_none, Option.isNone_some, Bool.not_true, Bool.not_false, Bool.xor_true, Bool.xor_false, Bool.true_xor, Bool.false_xor, decide_true, decide_false, Bool.and_true, Bool.true_and, Bool.and_false, Bool.false_and, eq_self, ne_eq, not_false_eq_true, not_true_eq_false, true_and, and_true, and_self, h1, h2, h0, h4, h5, h6]
    exact fun ρ a w hs _ => ⟨rfl, hs.grown⟩
theorem reftok_c (t : Tk) (w : World) : Calls Try.prog 45 #[t.v] w fun e w' => e = .returned t.v ∧ Below w.heap.size w w' := by
  refine calls_pure 12 _ Try.func45 rfl Try.ntmps45 Try.results45 [.agg t.c] (by simp) (fun _ => rfl) ?_
  simp only [go_sem, ↓reduceIte, Nat.reduceEqDiff, Nat.reduceLT, Nat.reduceLeDiff, Nat.reduceAdd, Nat.reduceMul, Nat.reduceSub, Nat.reduceDiv, Nat.reduceMod, Int.reduceToNat, Int.reduceLT, Int.reduceLE, Int.reduceAdd, Int.reduceSub, Int.reduceMul, Int.reduceEq, Int.reduceNeg, reduceCtorEq, or_false, false_or, decide_true, decide_false, Int.cast_ofNat_Int, Nat.zero_add, Nat.add_zero, Int.toNat_natCast, Option.isNone_none, Option.isNone_some, Bool.not_true, Bool.not_false, Bool.xor_true, Bool.xor_false, Bool.true_xor, Bool.false_xor, decide_true, decide_false, Bool.and_true, Bool.true_and, Bool.and_false, Bool.false_and, eq_self, ne_eq, not_false_eq_true, not_true_eq_false, true_and, and_true, and_self]
  exact fun ρ a w hs _ => ⟨rfl, hs.grown⟩
section
variable {C : Cx} {fr : List (Nat × SV)} {hp : List (Nat × Blk)} {nx : Nat} {d : Option Tmp} {K : St → Prop}
theorem rtright_s {t : Tk} (h : dOk C.N d ∧ kput K ⟨fr, hp, nx⟩ d (.c (.v (.bool t.right)))) : SCall Try.prog C 47 [.agg [.v (.int .i64 t.tn), .v (.string t.bk), .v (.int .i64 t.rt), .v (.int .u64 (t.un : Int))]] d K ⟨fr, hp, nx⟩ :=
  scall_pure [t.v] _ (.bool t.right) Try.call47 (rtright_c t) rfl (fun _ => rfl) (fun _ => rfl) h
theorem reftok_s {t : Tk} (h : dOk C.N d ∧ kput K ⟨fr, hp, nx⟩ d (.agg t.c)) : SCall Try.prog C 45 [.agg [.v (.int .i64 t.tn), .v (.string t.bk), .v (.int .i64 t.rt), .v (.int .u64 (t.un : Int))]] d K ⟨fr, hp, nx⟩ :=
  scall_pure [t.v] _ t.v Try.call45 (reftok_c t) rfl (fun _ => rfl) (fun _ => rfl) h
end
set_option maxRecDepth 100000 in
set_option maxHeartbeats 1000000 in
theorem rplain_c (t : Tk) (hr : t.right = true) (w : World) : Calls Try.prog 89 #[t.v] w fun e w' => e = .returned (.string (strN (plainL t))) ∧ Below w.heap.size w w' := by
  refine calls_pure 20 _ Try.func89 rfl Try.ntmps89 Try.results89 [.agg t.c] (by simp) (fun _ => rfl) ?_
  obtain ⟨⟨h1, h2⟩, h3, h4, h5, h6⟩ := Tk.right_iff.1 hr
  obtain ⟨a, ha⟩ : ∃ a : Nat, t.tn = (a : Int) := ⟨t.tn.toNat, by omega⟩
  obtain ⟨b, hb⟩ : ∃ b : Nat, t.rt = (b : Int) := ⟨t.rt.toNat, by omega⟩
  obtain ⟨p1, q1⟩ : ∃ p, strN (be a 1) = p := ⟨_, rfl⟩
  obtain ⟨p2, q2⟩ : ∃ p, strN (vary t.bk.size ++ bl t.bk) = p := ⟨_, rfl⟩
  obtain ⟨p3, q3⟩ : ∃ p, strN (be b 1) = p := ⟨_, rfl⟩
  obtain ⟨p4, q4⟩ : ∃ p, strN (be t.un 8) = p := ⟨_, rfl⟩
  have z1 : p1.size = 1 := by rw [← q1, strN_size, be_len]
  have hvl : (vary t.bk.size).length ≤ 11 := varyF_len 10 _
  have z2 : p2.size ≤ 27 := by rw [← q2, strN_size, List.length_append, bl_len]; omega
  have z3 : p3.size = 1 := by rw [← q3, strN_size, be_len]
  have z4 : p4.size = 8 := by rw [← q4, strN_size, be_len]
  have e1 : p1.size + p2.size ≤ 9223372036854775807 := by omega
  have e2 : (p1 ++ p2).size + p3.size ≤ 9223372036854775807 := by rw [ByteArray.size_append]; omega
  have e3 : (p1 ++ p2 ++ p3).size + p4.size ≤ 9223372036854775807 := by rw [ByteArray.size_append, ByteArray.size_append]; omega
  have hp : p1 ++ p2 ++ p3 ++ p4 = strN (plainL t) := by
    rw [← q1, ← q2, ← q3, ← q4, ← strN_app, ← strN_app, ← strN_app]
    unfold plainL
    rw [ha, hb]; rfl
  simp (disch := omega) only [go_sem, ↓reduceIte, Nat.reduceEqDiff, Nat.reduceLT, Nat.reduceLeDiff, Nat.reduceAdd, Nat.reduceMul, Nat.reduceSub, Nat.reduceDiv, Nat.reduceMod, Int.reduceToNat, Int.reduceLT, Int.reduceLE, Int.reduceAdd, Int.reduceSub, Int.reduceMul, Int.reduceEq, Int.reduceNeg, reduceCtorEq, or_false, false_or, decide_true, decide_false, Int.cast_ofNat_Int, Nat.zero_add, Nat.add_zero, Int.toNat_natCast, Option.isNone_none, Option.isNone_some, Bool.not_true, Bool.not_false, Bool.xor_true, Bool.xor_false, Bool.true_xor, Bool.false_xor, decide_true, decide_false, Bool.and_true, Bool.true_and, Bool.and_false, Bool.false_and, eq_self, ne_eq, not_false_eq_true, not_true_eq_false, true_and, and_true, and_self, wrapI64, wrapu64, wrapu32, wrapu8, ltT, ltF, leT, leF, eqF, eqT, nltT, nleT, neqFn]
  refine sdraw [.t 0, .t 1, .t 2, .t 4, .t 5, .t 8, .t 9, .t 10, .t 13, .t 14, .r 3, .r 6, .t 7, .r 11, .t 12, .r 15, .t 16, .t 17] 18 [(0, _)] rfl (by kernel_rfl) ⟨rfl, trivial⟩ ?_
  simp (disch := omega) only [go_sem, ↓reduceIte, Nat.reduceEqDiff, Nat.reduceLT, Nat.reduceLeDiff, Nat.reduceAdd, Nat.reduceMul, Nat.reduceSub, Nat.reduceDiv, Nat.reduceMod, Int.reduceToNat, Int.reduceLT, Int.reduceLE, Int.reduceAdd, Int.reduceSub, Int.reduceMul, Int.reduceEq, Int.reduceNeg, reduceCtorEq, or_false, false_or, decide_true, decide_false, Int.cast_ofNat_Int, Nat.zero_add, Nat.add_zero, Int.toNat_natCast, Option.isNone_none, Option.isNone_some, Bool.not_true, Bool.not_false, Bool.xor_true, Bool.xor_false, Bool.true_xor, Bool.false_xor, decide_true, decide_false, Bool.and_true, Bool.true_and, Bool.and_false, Bool.false_and, eq_self, ne_eq, not_false_eq_true, not_true_eq_false, true_and, and_true, and_self, wrapI64, wrapu64, wrapu32, wrapu8, ltT, ltF, leT, leF, eqF, eqT, nltT, nleT, neqFn]
  rw [ha, hb]
  refine rnumber_s 1 rfl (.inl rfl) ?_
  rw [q1]
  simp (disch := omega) only [go_sem, ↓reduceIte, Nat.reduceEqDiff, Nat.reduceLT, Nat.reduceLeDiff, Nat.reduceAdd, Nat.reduceMul, Nat.reduceSub, Nat.reduceDiv, Nat.reduceMod, Int.reduceToNat, Int.reduceLT, Int.reduceLE, Int.reduceAdd, Int.reduceSub, Int.reduceMul, Int.reduceEq, Int.reduceNeg, reduceCtorEq, or_false, false_or, decide_true, decide_false, Int.cast_ofNat_Int, Nat.zero_add, Nat.add_zero, Int.toNat_natCast, Option.isNone_none, Option.isNone_some, Bool.not_true, Bool.not_false, Bool.xor_true, Bool.xor_false, Bool.true_xor, Bool.false_xor, decide_true, decide_false, Bool.and_true, Bool.true_and, Bool.and_false, Bool.false_and, eq_self, ne_eq, not_false_eq_true, not_true_eq_false, true_and, and_true, and_self, wrapI64, wrapu64, wrapu32, wrapu8, ltT, ltF, leT, leF, eqF, eqT, nltT, nleT, neqFn]
  refine rtextw_s (by omega) ?_
  rw [q2]
  simp (disch := omega) only [go_sem, ↓reduceIte, Nat.reduceEqDiff, Nat.reduceLT, Nat.reduceLeDiff, Nat.reduceAdd, Nat.reduceMul, Nat.reduceSub, Nat.reduceDiv, Nat.reduceMod, Int.reduceToNat, Int.reduceLT, Int.reduceLE, Int.reduceAdd, Int.reduceSub, Int.reduceMul, Int.reduceEq, Int.reduceNeg, reduceCtorEq, or_false, false_or, decide_true, decide_false, Int.cast_ofNat_Int, Nat.zero_add, Nat.add_zero, Int.toNat_natCast, Option.isNone_none, Option.isNone_some, Bool.not_true, Bool.not_false, Bool.xor_true, Bool.xor_false, Bool.true_xor, Bool.false_xor, decide_true, decide_false, Bool.and_true, Bool.true_and, Bool.and_false, Bool.false_and, eq_self, ne_eq, not_false_eq_true, not_true_eq_false, true_and, and_true, and_self, wrapI64, wrapu64, wrapu32, wrapu8, ltT, ltF, leT, leF, eqF, eqT, nltT, nleT, neqFn, e1]
  refine rnumber_s 1 rfl (.inl rfl) ?_
  rw [q3]
  simp (disch := omega) only [go_sem, ↓reduceIte, Nat.reduceEqDiff, Nat.reduceLT, Nat.reduceLeDiff, Nat.reduceAdd, Nat.reduceMul, Nat.reduceSub, Nat.reduceDiv, Nat.reduceMod, Int.reduceToNat, Int.reduceLT, Int.reduceLE, Int.reduceAdd, Int.reduceSub, Int.reduceMul, Int.reduceEq, Int.reduceNeg, reduceCtorEq, or_false, false_or, decide_true, decide_false, Int.cast_ofNat_Int, Nat.zero_add, Nat.add_zero, Int.toNat_natCast, Option.isNone_none, Option.isNone_some, Bool.not_true, Bool.not_false, Bool.xor_true, Bool.xor_false, Bool.true_xor, Bool.false_xor, decide_true, decide_false, Bool.and_true, Bool.true_and, Bool.and_false, Bool.false_and, eq_self, ne_eq, not_false_eq_true, not_true_eq_false, true_and, and_true, and_self, wrapI64, wrapu64, wrapu32, wrapu8, ltT, ltF, leT, leF, eqF, eqT, nltT, nleT, neqFn, e2]
  refine rnumber_s 8 rfl (.inr rfl) ?_
  rw [q4]
  simp (disch := omega) only [go_sem, ↓reduceIte, Nat.reduceEqDiff, Nat.reduceLT, Nat.reduceLeDiff, Nat.reduceAdd, Nat.reduceMul, Nat.reduceSub, Nat.reduceDiv, Nat.reduceMod, Int.reduceToNat, Int.reduceLT, Int.reduceLE, Int.reduceAdd, Int.reduceSub, Int.reduceMul, Int.reduceEq, Int.reduceNeg, reduceCtorEq, or_false, false_or, decide_true, decide_false, Int.cast_ofNat_Int, Nat.zero_add, Nat.add_zero, Int.toNat_natCast, Option.isNone_none, Option.isNone_some, Bool.not_true, Bool.not_false, Bool.xor_true, Bool.xor_false, Bool.true_xor, Bool.false_xor, decide_true, decide_false, Bool.and_true, Bool.true_and, Bool.and_false, Bool.false_and, eq_self, ne_eq, not_false_eq_true, not_true_eq_false, true_and, and_true, and_self, wrapI64, wrapu64, wrapu32, wrapu8, ltT, ltF, leT, leF, eqF, eqT, nltT, nleT, neqFn, e3, hp]
  exact fun ρ a w hs _ => ⟨rfl, hs.grown⟩
theorem rplain_s {C : Cx} {fr : List (Nat × SV)} {hp : List (Nat × Blk)} {nx : Nat} {d : Option Tmp} {K : St → Prop} {t : Tk} (hr : t.right = true) (h : dOk C.N d ∧ kput K ⟨fr, hp, nx⟩ d (.c (.v (.string (strN (plainL t)))))) : SCall Try.prog C 89 [.agg [.v (.int .i64 t.tn), .v (.string t.bk), .v (.int .i64 t.rt), .v (.int .u64 (t.un : Int))]] d K ⟨fr, hp, nx⟩ :=
  scall_pure [t.v] _ (.string (strN (plainL t))) Try.call89 (rplain_c t hr) rfl (fun _ => rfl) (fun _ => rfl) h
theorem rmint_c (k : ByteArray) (hk : k.size ≤ 4611686018427387000) (t : Tk) (w : World) : Calls Try.prog 44 #[.string k, t.v] w fun e w' => e = .returned (.tuple #[.string (if t.right then strN (mintL (bl k) t) else ⟨#[]⟩), .bool t.right]) ∧ Below w.heap.size w w' := by
  refine calls_pure 17 _ Try.func44 rfl Try.ntmps44 Try.results44 [.c (.v (.string k)), .agg t.c] (by simp) (fun _ => rfl) ?_
  simp (disch := omega) only [go_sem, ↓reduceIte, Nat.reduceEqDiff, Nat.reduceLT, Nat.reduceLeDiff, Nat.reduceAdd, Nat.reduceMul, Nat.reduceSub, Nat.reduceDiv, Nat.reduceMod, Int.reduceToNat, Int.reduceLT, Int.reduceLE, Int.reduceAdd, Int.reduceSub, Int.reduceMul, Int.reduceEq, Int.reduceNeg, reduceCtorEq, or_false, false_or, decide_true, decide_false, Int.cast_ofNat_Int, Nat.zero_add, Nat.add_zero, Int.toNat_natCast, Option.isNone_none, Option.isNone_some, Bool.not_true, Bool.not_false, Bool.xor_true, Bool.xor_false, Bool.true_xor, Bool.false_xor, decide_true, decide_false, Bool.and_true, Bool.true_and, Bool.and_false, Bool.false_and, eq_self, ne_eq, not_false_eq_true, not_true_eq_false, true_and, and_true, and_self, wrapI64, wrapu64, wrapu32, wrapu8, ltT, ltF, leT, leF, eqF, eqT, nltT, nleT, neqFn]
  refine rtright_s ?_
  cases hr : t.right
  · simp (disch := omega) only [go_sem, ↓reduceIte, Nat.reduceEqDiff, Nat.reduceLT, Nat.reduceLeDiff, Nat.reduceAdd, Nat.reduceMul, Nat.reduceSub, Nat.reduceDiv, Nat.reduceMod, Int.reduceToNat, Int.reduceLT, Int.reduceLE, Int.reduceAdd, Int.reduceSub, Int.reduceMul, Int.reduceEq, Int.reduceNeg, reduceCtorEq, or_false, false_or, decide_true, decide_false, Int.cast_ofNat_Int, Nat.zero_add, Nat.add_zero, Int.toNat_natCast, Option.isNone_none, Option.isNone_some, Bool.not_true, Bool.not_false, Bool.xor_true, Bool.xor_false, Bool.true_xor, Bool.false_xor, decide_true, decide_false, Bool.and_true, Bool.true_and, Bool.and_false, Bool.false_and, eq_self, ne_eq, not_false_eq_true, not_true_eq_false, true_and, and_true, and_self, wrapI64, wrapu64, wrapu32, wrapu8, ltT, ltF, leT, leF, eqF, eqT, nltT, nleT, neqFn]
    exact fun ρ a w hs _ => ⟨rfl, hs.grown⟩
  have h16 := (Tk.right_iff.1 hr).2.2.1
  have hpl := plainL_len t
  have hvl : (vary t.bk.size).length ≤ 11 := varyF_len 10 _
  have hbp : bl (strN (plainL t)) = plainL t := bl_strN fun x hx => plainL_lt hx
  have hps := strN_size (plainL t)
  have hhs := strN_size (hmL (bl k) (plainL t))
  rw [hmL_len] at hhs
  have e4 : (strN (plainL t)).size + (strN (hmL (bl k) (plainL t))).size ≤ 9223372036854775807 := by omega
  have hfin : strN (plainL t) ++ strN (hmL (bl k) (plainL t)) = strN (mintL (bl k) t) := by rw [← strN_app]; rfl
  simp (disch := omega) only [go_sem, ↓reduceIte, Nat.reduceEqDiff, Nat.reduceLT, Nat.reduceLeDiff, Nat.reduceAdd, Nat.reduceMul, Nat.reduceSub, Nat.reduceDiv, Nat.reduceMod, Int.reduceToNat, Int.reduceLT, Int.reduceLE, Int.reduceAdd, Int.reduceSub, Int.reduceMul, Int.reduceEq, Int.reduceNeg, reduceCtorEq, or_false, false_or, decide_true, decide_false, Int.cast_ofNat_Int, Nat.zero_add, Nat.add_zero, Int.toNat_natCast, Option.isNone_none, Option.isNone_some, Bool.not_true, Bool.not_false, Bool.xor_true, Bool.xor_false, Bool.true_xor, Bool.false_xor, decide_true, decide_false, Bool.and_true, Bool.true_and, Bool.and_false, Bool.false_and, eq_self, ne_eq, not_false_eq_true, not_true_eq_false, true_and, and_true, and_self, wrapI64, wrapu64, wrapu32, wrapu8, ltT, ltF, leT, leF, eqF, eqT, nltT, nleT, neqFn]
  refine rplain_s hr ?_
  simp (disch := omega) only [go_sem, ↓reduceIte, Nat.reduceEqDiff, Nat.reduceLT, Nat.reduceLeDiff, Nat.reduceAdd, Nat.reduceMul, Nat.reduceSub, Nat.reduceDiv, Nat.reduceMod, Int.reduceToNat, Int.reduceLT, Int.reduceLE, Int.reduceAdd, Int.reduceSub, Int.reduceMul, Int.reduceEq, Int.reduceNeg, reduceCtorEq, or_false, false_or, decide_true, decide_false, Int.cast_ofNat_Int, Nat.zero_add, Nat.add_zero, Int.toNat_natCast, Option.isNone_none, Option.isNone_some, Bool.not_true, Bool.not_false, Bool.xor_true, Bool.xor_false, Bool.true_xor, Bool.false_xor, decide_true, decide_false, Bool.and_true, Bool.true_and, Bool.and_false, Bool.false_and, eq_self, ne_eq, not_false_eq_true, not_true_eq_false, true_and, and_true, and_self, wrapI64, wrapu64, wrapu32, wrapu8, ltT, ltF, leT, leF, eqF, eqT, nltT, nleT, neqFn]
  refine rhsum_s hk (by omega) ?_
  rw [hbp]
  simp (disch := omega) only [go_sem, ↓reduceIte, Nat.reduceEqDiff, Nat.reduceLT, Nat.reduceLeDiff, Nat.reduceAdd, Nat.reduceMul, Nat.reduceSub, Nat.reduceDiv, Nat.reduceMod, Int.reduceToNat, Int.reduceLT, Int.reduceLE, Int.reduceAdd, Int.reduceSub, Int.reduceMul, Int.reduceEq, Int.reduceNeg, reduceCtorEq, or_false, false_or, decide_true, decide_false, Int.cast_ofNat_Int, Nat.zero_add, Nat.add_zero, Int.toNat_natCast, Option.isNone_none, Option.isNone_some, Bool.not_true, Bool.not_false, Bool.xor_true, Bool.xor_false, Bool.true_xor, Bool.false_xor, decide_true, decide_false, Bool.and_true, Bool.true_and, Bool.and_false, Bool.false_and, eq_self, ne_eq, not_false_eq_true, not_true_eq_false, true_and, and_true, and_self, wrapI64, wrapu64, wrapu32, wrapu8, ltT, ltF, leT, leF, eqF, eqT, nltT, nleT, neqFn, e4, hfin]
  exact fun ρ a w hs _ => ⟨rfl, hs.grown⟩
section
variable {C : Cx} {fr : List (Nat × SV)} {hp : List (Nat × Blk)} {nx : Nat} {d : Option Tmp} {K : St → Prop}
theorem rmint_s {k : ByteArray} (hk : k.size ≤ 4611686018427387000) {t : Tk} (h : dOk C.N d ∧ kput K ⟨fr, hp, nx⟩ d (.tup [.c (.v (.string (if t.right then strN (mintL (bl k) t) else ⟨#[]⟩))), .c (.v (.bool t.right))])) : SCall Try.prog C 44 [.c (.v (.string k)), .agg [.v (.int .i64 t.tn), .v (.string t.bk), .v (.int .i64 t.rt), .v (.int .u64 (t.un : Int))]] d K ⟨fr, hp, nx⟩ :=
  scall_pure [.string k, t.v] _ (.tuple #[.string (if t.right then strN (mintL (bl k) t) else ⟨#[]⟩), .bool t.right]) Try.call44 (rmint_c k hk t) rfl (fun _ => rfl) (fun _ => rfl) h
end
set_option maxRecDepth 100000 in
set_option maxHeartbeats 2000000 in
theorem ropen_c (k : ByteArray) (hk : k.size ≤ 4611686018427387000) (S : List Nat) (hS : ∀ x, x ∈ S → x < 256) (now : Nat) (w : World) : Calls Try.prog 50 #[.string k, .string (strN S), .int .u64 (now : Int)] w fun e w' => e = .returned (.tuple #[(openT (bl k) S now).v, .int .i64 (openE (bl k) S now)]) ∧ Below w.heap.size w w' := by
  refine calls_pure 76 _ Try.func50 rfl Try.ntmps50 Try.results50 [.c (.v (.string k)), .c (.v (.string (strN S))), .c (.v (.int .u64 (now : Int)))] (by simp) (fun _ => rfl) ?_
  have fail : rOk (bl k) S now = false → openT (bl k) S now = Tk.zero ∧ openE (bl k) S now = 8 := fun h => by
    rw [rOk_eq hS] at h
    unfold openT openE; rw [h]; exact ⟨rfl, rfl⟩
  have hss := strN_size S
  by_cases h100 : 100 < S.length
  · obtain ⟨f1, f2⟩ := fail (by unfold rOk; rw [decide_eq_true h100]; rfl)
    rw [f1, f2]
    simp (disch := omega) only [go_sem, ↓reduceIte, Nat.reduceEqDiff, Nat.reduceLT, Nat.reduceLeDiff, Nat.reduceAdd, Nat.reduceMul, Nat.reduceSub, Nat.reduceDiv, Nat.reduceMod, Int.reduceToNat, Int.reduceLT, Int.reduceLE, Int.reduceAdd, Int.reduceSub, Int.reduceMul, Int.reduceEq, Int.reduceNeg, reduceCtorEq, or_false, false_or, decide_true, decide_false, Int.cast_ofNat_Int, Nat.zero_add, Nat.add_zero, Int.toNat_natCast, Option.isNone_none, Option.isNone_some, Bool.not_true, Bool.not_false, Bool.xor_true, Bool.xor_false, Bool.true_xor, Bool.false_xor, decide_true, decide_false, Bool.and_true, Bool.true_and, Bool.and_false, Bool.false_and, eq_self, ne_eq, not_false_eq_true, not_true_eq_false, true_and, and_true, and_self, wrapI64, wrapu64, wrapu32, wrapu8, ltT, ltF, leT, leF, eqF, eqT, nltT, nleT, neqFn, hss]
    exact fun ρ a w hs _ => ⟨rfl, hs.grown⟩
  have h0 : Rd.ok ⟨S, false⟩ := hS
  have h1 : (o1 S).2.ok := numR_ok h0 1
  have l1 : (o1 S).2.rest.length ≤ S.length := numR_len _ 1
  obtain ⟨h2, b2⟩ : (o2 S).2.ok ∧ ∀ x, x ∈ (o2 S).1 → x < 256 := txtR_ok h1 16
  have l2 : (o2 S).2.rest.length ≤ (o1 S).2.rest.length := txtR_len h1 16
  have h3 : (o3 S).2.ok := numR_ok h2 1
  have l3 : (o3 S).2.rest.length ≤ (o2 S).2.rest.length := numR_len _ 1
  simp (disch := omega) only [go_sem, ↓reduceIte, Nat.reduceEqDiff, Nat.reduceLT, Nat.reduceLeDiff, Nat.reduceAdd, Nat.reduceMul, Nat.reduceSub, Nat.reduceDiv, Nat.reduceMod, Int.reduceToNat, Int.reduceLT, Int.reduceLE, Int.reduceAdd, Int.reduceSub, Int.reduceMul, Int.reduceEq, Int.reduceNeg, reduceCtorEq, or_false, false_or, decide_true, decide_false, Int.cast_ofNat_Int, Nat.zero_add, Nat.add_zero, Int.toNat_natCast, Option.isNone_none, Option.isNone_some, Bool.not_true, Bool.not_false, Bool.xor_true, Bool.xor_false, Bool.true_xor, Bool.false_xor, decide_true, decide_false, Bool.and_true, Bool.true_and, Bool.and_false, Bool.false_and, eq_self, ne_eq, not_false_eq_true, not_true_eq_false, true_and, and_true, and_self, wrapI64, wrapu64, wrapu32, wrapu8, ltT, ltF, leT, leF, eqF, eqT, nltT, nleT, neqFn, hss]
  refine rdnum_s h0 (by show S.length ≤ _; omega) 1 rfl (by omega) ?_
  rw [show numR ⟨S, false⟩ 1 = o1 S from rfl]
  simp (disch := omega) only [go_sem, ↓reduceIte, Nat.reduceEqDiff, Nat.reduceLT, Nat.reduceLeDiff, Nat.reduceAdd, Nat.reduceMul, Nat.reduceSub, Nat.reduceDiv, Nat.reduceMod, Int.reduceToNat, Int.reduceLT, Int.reduceLE, Int.reduceAdd, Int.reduceSub, Int.reduceMul, Int.reduceEq, Int.reduceNeg, reduceCtorEq, or_false, false_or, decide_true, decide_false, Int.cast_ofNat_Int, Nat.zero_add, Nat.add_zero, Int.toNat_natCast, Option.isNone_none, Option.isNone_some, Bool.not_true, Bool.not_false, Bool.xor_true, Bool.xor_false, Bool.true_xor, Bool.false_xor, decide_true, decide_false, Bool.and_true, Bool.true_and, Bool.and_false, Bool.false_and, eq_self, ne_eq, not_false_eq_true, not_true_eq_false, true_and, and_true, and_self, wrapI64, wrapu64, wrapu32, wrapu8, ltT, ltF, leT, leF, eqF, eqT, nltT, nleT, neqFn]
  refine rdtext_s h1 (by omega) 16 rfl (by omega) ?_
  rw [show txtR (o1 S).2 16 = o2 S from rfl]
  simp (disch := omega) only [go_sem, ↓reduceIte, Nat.reduceEqDiff, Nat.reduceLT, Nat.reduceLeDiff, Nat.reduceAdd, Nat.reduceMul, Nat.reduceSub, Nat.reduceDiv, Nat.reduceMod, Int.reduceToNat, Int.reduceLT, Int.reduceLE, Int.reduceAdd, Int.reduceSub, Int.reduceMul, Int.reduceEq, Int.reduceNeg, reduceCtorEq, or_false, false_or, decide_true, decide_false, Int.cast_ofNat_Int, Nat.zero_add, Nat.add_zero, Int.toNat_natCast, Option.isNone_none, Option.isNone_some, Bool.not_true, Bool.not_false, Bool.xor_true, Bool.xor_false, Bool.true_xor, Bool.false_xor, decide_true, decide_false, Bool.and_true, Bool.true_and, Bool.and_false, Bool.false_and, eq_self, ne_eq, not_false_eq_true, not_true_eq_false, true_and, and_true, and_self, wrapI64, wrapu64, wrapu32, wrapu8, ltT, ltF, leT, leF, eqF, eqT, nltT, nleT, neqFn]
  refine rdnum_s h2 (by omega) 1 rfl (by omega) ?_
  rw [show numR (o2 S).2 1 = o3 S from rfl]
  simp (disch := omega) only [go_sem, ↓reduceIte, Nat.reduceEqDiff, Nat.reduceLT, Nat.reduceLeDiff, Nat.reduceAdd, Nat.reduceMul, Nat.reduceSub, Nat.reduceDiv, Nat.reduceMod, Int.reduceToNat, Int.reduceLT, Int.reduceLE, Int.reduceAdd, Int.reduceSub, Int.reduceMul, Int.reduceEq, Int.reduceNeg, reduceCtorEq, or_false, false_or, decide_true, decide_false, Int.cast_ofNat_Int, Nat.zero_add, Nat.add_zero, Int.toNat_natCast, Option.isNone_none, Option.isNone_some, Bool.not_true, Bool.not_false, Bool.xor_true, Bool.xor_false, Bool.true_xor, Bool.false_xor, decide_true, decide_false, Bool.and_true, Bool.true_and, Bool.and_false, Bool.false_and, eq_self, ne_eq, not_false_eq_true, not_true_eq_false, true_and, and_true, and_self, wrapI64, wrapu64, wrapu32, wrapu8, ltT, ltF, leT, leF, eqF, eqT, nltT, nleT, neqFn]
  refine rdnum_s h3 (by omega) 8 rfl (by omega) ?_
  rw [show numR (o3 S).2 8 = o4 S from rfl]
  cases hb : (o4 S).2.bad
  case true =>
    obtain ⟨f1, f2⟩ := fail (by unfold rOk; rw [hb]; simp)
    rw [f1, f2]
    simp (disch := omega) only [go_sem, ↓reduceIte, Nat.reduceEqDiff, Nat.reduceLT, Nat.reduceLeDiff, Nat.reduceAdd, Nat.reduceMul, Nat.reduceSub, Nat.reduceDiv, Nat.reduceMod, Int.reduceToNat, Int.reduceLT, Int.reduceLE, Int.reduceAdd, Int.reduceSub, Int.reduceMul, Int.reduceEq, Int.reduceNeg, reduceCtorEq, or_false, false_or, decide_true, decide_false, Int.cast_ofNat_Int, Nat.zero_add, Nat.add_zero, Int.toNat_natCast, Option.isNone_none, Option.isNone_some, Bool.not_true, Bool.not_false, Bool.xor_true, Bool.xor_false, Bool.true_xor, Bool.false_xor, decide_true, decide_false, Bool.and_true, Bool.true_and, Bool.and_false, Bool.false_and, eq_self, ne_eq, not_false_eq_true, not_true_eq_false, true_and, and_true, and_self, wrapI64, wrapu64, wrapu32, wrapu8, ltT, ltF, leT, leF, eqF, eqT, nltT, nleT, neqFn]
    exact fun ρ a w hs _ => ⟨rfl, hs.grown⟩
  by_cases hun : now < (o4 S).1
  case neg =>
    obtain ⟨f1, f2⟩ := fail (by unfold rOk; rw [decide_eq_false hun]; simp)
    rw [f1, f2]
    simp (disch := omega) only [go_sem, ↓reduceIte, Nat.reduceEqDiff, Nat.reduceLT, Nat.reduceLeDiff, Nat.reduceAdd, Nat.reduceMul, Nat.reduceSub, Nat.reduceDiv, Nat.reduceMod, Int.reduceToNat, Int.reduceLT, Int.reduceLE, Int.reduceAdd, Int.reduceSub, Int.reduceMul, Int.reduceEq, Int.reduceNeg, reduceCtorEq, or_false, false_or, decide_true, decide_false, Int.cast_ofNat_Int, Nat.zero_add, Nat.add_zero, Int.toNat_natCast, Option.isNone_none, Option.isNone_some, Bool.not_true, Bool.not_false, Bool.xor_true, Bool.xor_false, Bool.true_xor, Bool.false_xor, decide_true, decide_false, Bool.and_true, Bool.true_and, Bool.and_false, Bool.false_and, eq_self, ne_eq, not_false_eq_true, not_true_eq_false, true_and, and_true, and_self, wrapI64, wrapu64, wrapu32, wrapu8, ltT, ltF, leT, leF, eqF, eqT, nltT, nleT, neqFn]
    exact fun ρ a w hs _ => ⟨rfl, hs.grown⟩
  simp (disch := omega) only [go_sem, ↓reduceIte, Nat.reduceEqDiff, Nat.reduceLT, Nat.reduceLeDiff, Nat.reduceAdd, Nat.reduceMul, Nat.reduceSub, Nat.reduceDiv, Nat.reduceMod, Int.reduceToNat, Int.reduceLT, Int.reduceLE, Int.reduceAdd, Int.reduceSub, Int.reduceMul, Int.reduceEq, Int.reduceNeg, reduceCtorEq, or_false, false_or, decide_true, decide_false, Int.cast_ofNat_Int, Nat.zero_add, Nat.add_zero, Int.toNat_natCast, Option.isNone_none, Option.isNone_some, Bool.not_true, Bool.not_false, Bool.xor_true, Bool.xor_false, Bool.true_xor, Bool.false_xor, decide_true, decide_false, Bool.and_true, Bool.true_and, Bool.and_false, Bool.false_and, eq_self, ne_eq, not_false_eq_true, not_true_eq_false, true_and, and_true, and_self, wrapI64, wrapu64, wrapu32, wrapu8, ltT, ltF, leT, leF, eqF, eqT, nltT, nleT, neqFn]
  refine rmint_s (t := otk S) hk ?_
  cases hrt : (otk S).right
  · obtain ⟨f1, f2⟩ := fail (by unfold rOk; rw [hrt]; simp)
    rw [f1, f2]
    simp (disch := omega) only [go_sem, ↓reduceIte, Nat.reduceEqDiff, Nat.reduceLT, Nat.reduceLeDiff, Nat.reduceAdd, Nat.reduceMul, Nat.reduceSub, Nat.reduceDiv, Nat.reduceMod, Int.reduceToNat, Int.reduceLT, Int.reduceLE, Int.reduceAdd, Int.reduceSub, Int.reduceMul, Int.reduceEq, Int.reduceNeg, reduceCtorEq, or_false, false_or, decide_true, decide_false, Int.cast_ofNat_Int, Nat.zero_add, Nat.add_zero, Int.toNat_natCast, Option.isNone_none, Option.isNone_some, Bool.not_true, Bool.not_false, Bool.xor_true, Bool.xor_false, Bool.true_xor, Bool.false_xor, decide_true, decide_false, Bool.and_true, Bool.true_and, Bool.and_false, Bool.false_and, eq_self, ne_eq, not_false_eq_true, not_true_eq_false, true_and, and_true, and_self, wrapI64, wrapu64, wrapu32, wrapu8, ltT, ltF, leT, leF, eqF, eqT, nltT, nleT, neqFn]
    exact fun ρ a w hs _ => ⟨rfl, hs.grown⟩
  have heq : (strN (mintL (bl k) (otk S)) = strN S) ↔ mintL (bl k) (otk S) = S := strN_eq (fun x hx => mintL_lt hx) hS
  by_cases hq : mintL (bl k) (otk S) = S
  · have hok : rOk (bl k) S now = true := by
      unfold rOk
      rw [decide_eq_false h100, hb, decide_eq_true hun, hrt, decide_eq_true hq]; rfl
    rw [rOk_eq hS] at hok
    have f1 : openT (bl k) S now = otk S ∧ openE (bl k) S now = 0 := by unfold openT openE; rw [hok]; exact ⟨rfl, rfl⟩
    have hT : (strN (mintL (bl k) (otk S)) = strN S) = True := eq_true (heq.2 hq)
    rw [f1.1, f1.2]
    simp (disch := omega) only [go_sem, ↓reduceIte, Nat.reduceEqDiff, Nat.reduceLT, Nat.reduceLeDiff, Nat.reduceAdd, Nat.reduceMul, Nat.reduceSub, Nat.reduceDiv, Nat.reduceMod, Int.reduceToNat, Int.reduceLT, Int.reduceLE, Int.reduceAdd, Int.reduceSub, Int.reduceMul, Int.reduceEq, Int.reduceNeg, reduceCtorEq, or_false, false_or, decide_true, decide_false, Int.cast_ofNat_Int, Nat.zero_add, Nat.add_zero, Int.toNat_natCast, Option.isNone_none, Option.isNone_some, Bool.not_true, Bool.not_false, Bool.xor_true, Bool.xor_false, Bool.true_xor, Bool.false_xor, decide_true, decide_false, Bool.and_true, Bool.true_and, Bool.and_false, Bool.false_and, eq_self, ne_eq, not_false_eq_true, not_true_eq_false, true_and, and_true, and_self, wrapI64, wrapu64, wrapu32, wrapu8, ltT, ltF, leT, leF, eqF, eqT, nltT, nleT, neqFn, if_true, hT]
    exact fun ρ a w hs _ => ⟨rfl, hs.grown⟩
  · obtain ⟨f1, f2⟩ := fail (by unfold rOk; rw [decide_eq_false hq]; simp)
    have hF : (strN (mintL (bl k) (otk S)) = strN S) = False := eq_false fun h => hq (heq.1 h)
    rw [f1, f2]
    simp (disch := omega) only [go_sem, ↓reduceIte, Nat.reduceEqDiff, Nat.reduceLT, Nat.reduceLeDiff, Nat.reduceAdd, Nat.reduceMul, Nat.reduceSub, Nat.reduceDiv, Nat.reduceMod, Int.reduceToNat, Int.reduceLT, Int.reduceLE, Int.reduceAdd, Int.reduceSub, Int.reduceMul, Int.reduceEq, Int.reduceNeg, reduceCtorEq, or_false, false_or, decide_true, decide_false, Int.cast_ofNat_Int, Nat.zero_add, Nat.add_zero, Int.toNat_natCast, Option.isNone_none, Option.isNone_some, Bool.not_true, Bool.not_false, Bool.xor_true, Bool.xor_false, Bool.true_xor, Bool.false_xor, decide_true, decide_false, Bool.and_true, Bool.true_and, Bool.and_false, Bool.false_and, eq_self, ne_eq, not_false_eq_true, not_true_eq_false, true_and, and_true, and_self, wrapI64, wrapu64, wrapu32, wrapu8, ltT, ltF, leT, leF, eqF, eqT, nltT, nleT, neqFn, if_true, hF]
    exact fun ρ a w hs _ => ⟨rfl, hs.grown⟩
theorem ropen_s {C : Cx} {fr : List (Nat × SV)} {hp : List (Nat × Blk)} {nx : Nat} {d : Option Tmp} {K : St → Prop} {k : ByteArray} (hk : k.size ≤ 4611686018427387000) {S : List Nat} (hS : ∀ x, x ∈ S → x < 256) {now : Nat} (h : dOk C.N d ∧ kput K ⟨fr, hp, nx⟩ d (.tup [.agg (openT (bl k) S now).c, .c (.v (.int .i64 (openE (bl k) S now)))])) : SCall Try.prog C 50 [.c (.v (.string k)), .c (.v (.string (strN S))), .c (.v (.int .u64 (now : Int)))] d K ⟨fr, hp, nx⟩ :=
  scall_pure [.string k, .string (strN S), .int .u64 (now : Int)] _ (.tuple #[(openT (bl k) S now).v, .int .i64 (openE (bl k) S now)]) Try.call50 (ropen_c k hk S hS now) rfl (fun _ => rfl) (fun _ => rfl) h
end Go.Proofs.Ytbdffcgbleiiaaa
