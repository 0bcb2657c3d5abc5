/-
  What a law's argument that lies flat is made of, piece by piece. Conditions: none.
-/
import Derived.Test.YtbdffcgbleiiaaaSx13
set_option linter.unusedVariables false
namespace Go.Sx
open Go.RowKit Go.ChangeShapes Go.WideShapes
theorem u64_nat {a : Int} (hw : (Lit.int .u64 a).wf = true) : ∃ n : Nat, a = (n : Int) ∧ n < 18446744073709551616 := by
  simp [Lit.wf, IntKind.min, IntKind.max, IntKind.signed, IntKind.bits] at hw
  exact ⟨a.toNat, by omega, by omega⟩
theorem u8_nat {a : Int} (hw : (Lit.int .u8 a).wf = true) : ∃ n : Nat, a = (n : Int) ∧ n < 256 := by
  simp [Lit.wf, IntKind.min, IntKind.max, IntKind.signed, IntKind.bits] at hw
  exact ⟨a.toNat, by omega, by omega⟩
theorem i8_in {a : Int} (hw : (Lit.int .i8 a).wf = true) : -128 ≤ a ∧ a ≤ 127 := by
  simp [Lit.wf, IntKind.min, IntKind.max, IntKind.signed, IntKind.bits] at hw
  omega
theorem fokI {k : IntKind} {ks : List FK} : ∀ {l : List Value}, FOk (.i k :: ks) l → ∃ n r, l = .int k n :: r ∧ (Lit.int k n).wf = true ∧ FOk ks r
  | _ :: r, ⟨⟨n, h1, h2⟩, h3⟩ => ⟨n, r, by rw [h1], h2, h3⟩
theorem fokB {ks : List FK} : ∀ {l : List Value}, FOk (.b :: ks) l → ∃ b r, l = .bool b :: r ∧ FOk ks r
  | _ :: r, ⟨⟨n, h1⟩, h3⟩ => ⟨n, r, by rw [h1], h3⟩
theorem fokS {ks : List FK} : ∀ {l : List Value}, FOk (.s :: ks) l → ∃ b r, l = .string b :: r ∧ b.size ≤ maxLen ∧ FOk ks r
  | _ :: r, ⟨⟨n, h1, h2⟩, h3⟩ => ⟨n, r, by rw [h1], h2, h3⟩
theorem fok0 : ∀ {l : List Value}, FOk [] l → l = []
  | [], _ => rfl
end Go.Sx
