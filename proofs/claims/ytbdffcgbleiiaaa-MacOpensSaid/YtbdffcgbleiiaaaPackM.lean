/-
  Chapter 2 on lists of numbers: numbers, lengths, texts; what is read of them. Conditions: none.
-/
import Derived.Test.YtbdffcgbleiiaaaShaM
set_option linter.unusedVariables false
set_option linter.unusedSimpArgs false
namespace Go.Pk
open Go.RowKit Go.Sx Go.Sha

def o64 (a b : Nat) : Nat := (a ||| b) % 18446744073709551616
def sl64 (a n : Nat) : Nat := (a * 2 ^ n) % 18446744073709551616
theorem bOr64 (a b : Nat) : ibit .or .u64 (a : Int) (b : Int) = ((o64 a b : Nat) : Int) := by
  simp only [ibit, ofInt_cast, IntKind.bits, BitVec.toNat_or, BitVec.toNat_ofNat, o64]
  rw [Nat.or_mod_two_pow (n := 64)]
  exact wrap_u64 _ (by omega) (by
    have := Nat.or_lt_two_pow (n := 64) (Nat.mod_lt a (by omega)) (Nat.mod_lt b (by omega))
    omega)
theorem wShl64 (a n : Nat) : IntKind.u64.wrap ((a : Int) * 2 ^ n) = ((sl64 a n : Nat) : Int) := by
  simp [IntKind.wrap, IntKind.bits, IntKind.signed, sl64]
theorem bOr128 (a : Nat) : ibit .or .u8 ((a % 256 : Nat) : Int) 128 = ((a % 128 + 128 : Nat) : Int) := by
  have h : ∀ x : Nat, x < 256 → ibit .or .u8 ((x : Nat) : Int) 128 = ((x % 128 + 128 : Nat) : Int) := by decide +kernel
  rw [h _ (Nat.mod_lt _ (by omega))]
  congr 2; omega
theorem bAnd127 (a : Nat) (ha : a < 256) : ibit .and .u8 (a : Int) 127 = ((a % 128 : Nat) : Int) := by
  have h : ∀ x : Nat, x < 256 → ibit .and .u8 ((x : Nat) : Int) 127 = ((x % 128 : Nat) : Int) := by decide +kernel
  exact h a ha
/-- A length's bytes. -/
def varyF : Nat → Nat → List Nat
  | 0, n => [n % 256]
  | k + 1, n => if n < 128 then [n] else (n % 128 + 128) :: varyF k (n / 128)
def vary (n : Nat) : List Nat := varyF 10 n
theorem varyF_lt : ∀ k n x, x ∈ varyF k n → x < 256
  | 0, n, x, h => by
    rw [varyF, List.mem_singleton] at h; omega
  | k + 1, n, x, h => by
    rw [varyF] at h
    split at h
    · rw [List.mem_singleton] at h; omega
    · rcases List.mem_cons.1 h with h | h
      · omega
      · exact varyF_lt k _ x h
theorem varyF_len : ∀ k n, (varyF k n).length ≤ k + 1
  | 0, n => by simp [varyF]
  | k + 1, n => by
    rw [varyF]
    split
    · simp
    · have := varyF_len k (n / 128)
      simp; omega
structure Rd where
  rest : List Nat
  bad : Bool
def Rd.no : Rd := ⟨[], true⟩
def val (l : List Nat) : Nat := l.foldl (fun n b => o64 (sl64 n 8) b) 0
theorem val_s {l : List Nat} {i x : Nat} (h : l[i]? = some x) : val (l.take (i + 1)) = o64 (sl64 (val (l.take i)) 8) x := by
  unfold val
  rw [List.take_add_one, h]
  simp
def numR (r : Rd) (k : Nat) : Nat × Rd := if r.bad = true ∨ r.rest.length < k then (0, Rd.no) else (val (r.rest.take k), ⟨r.rest.drop k, false⟩)
def varGo (rest : List Nat) : Nat → Nat → Nat → Nat × Rd
  | 0, _, _ => (0, Rd.no)
  | f + 1, k, n => match rest[k]? with
    | none => (0, Rd.no)
    | some b => if 128 ≤ b then varGo rest f (k + 1) (o64 n (sl64 (b % 128) (7 * k))) else
      if rest.take (k + 1) = vary (o64 n (sl64 (b % 128) (7 * k))) then (o64 n (sl64 (b % 128) (7 * k)), ⟨rest.drop (k + 1), false⟩) else (0, Rd.no)
def varR (r : Rd) : Nat × Rd := if r.bad then (0, Rd.no) else varGo r.rest 10 0 0
def txtR (r : Rd) (most : Nat) : List Nat × Rd := if (varR r).2.bad = true ∨ min most (varR r).2.rest.length < (varR r).1 then ([], Rd.no) else ((varR r).2.rest.take (varR r).1, ⟨(varR r).2.rest.drop (varR r).1, false⟩)
def Rd.ok (r : Rd) : Prop := ∀ x, x ∈ r.rest → x < 256
theorem Rd.ok_no : Rd.no.ok := fun x h => by cases h
theorem numR_ok {r : Rd} (h : r.ok) (k : Nat) : (numR r k).2.ok := by
  unfold numR
  split
  · exact Rd.ok_no
  · exact fun x hx => h x (List.mem_of_mem_drop hx)
theorem varGo_ok {l : List Nat} (h : ∀ x, x ∈ l → x < 256) : ∀ f k n, (varGo l f k n).2.ok ∧ (varGo l f k n).2.rest.length ≤ l.length
  | 0, _, _ => ⟨Rd.ok_no, Nat.zero_le _⟩
  | f + 1, k, n => by
    rw [varGo]
    split
    · exact ⟨Rd.ok_no, Nat.zero_le _⟩
    · split
      · exact varGo_ok h f _ _
      · split
        · exact ⟨fun x hx => h x (List.mem_of_mem_drop hx), by simp⟩
        · exact ⟨Rd.ok_no, Nat.zero_le _⟩
theorem varR_ok {r : Rd} (h : r.ok) : (varR r).2.ok ∧ (varR r).2.rest.length ≤ r.rest.length := by
  unfold varR
  split
  · exact ⟨Rd.ok_no, Nat.zero_le _⟩
  · exact varGo_ok h _ _ _
theorem txtR_ok {r : Rd} (h : r.ok) (k : Nat) : (txtR r k).2.ok ∧ ∀ x, x ∈ (txtR r k).1 → x < 256 := by
  unfold txtR
  split
  · exact ⟨Rd.ok_no, fun x hx => by cases hx⟩
  · exact ⟨fun x hx => (varR_ok h).1 x (List.mem_of_mem_drop hx), fun x hx => (varR_ok h).1 x (List.mem_of_mem_take hx)⟩
end Go.Pk
