/-
  Facts on numbers that the evaluation finds by itself. Conditions: none.
-/
import Derived.Test.YtbdffcgbleiiaaaSx15
set_option linter.unusedVariables false
namespace Go.Sx
open Go.RowKit

theorem wrapI64 {x : Int} (h1 : -9223372036854775808 ≤ x) (h2 : x < 9223372036854775808) : IntKind.i64.wrap x = x := wrap_i64 x h1 (by omega)
theorem wrapu64 {x : Int} (h1 : 0 ≤ x) (h2 : x < 18446744073709551616) : IntKind.u64.wrap x = x := by simp [IntKind.wrap, IntKind.bits, IntKind.signed]; omega
theorem wrapu32 {x : Int} (h1 : 0 ≤ x) (h2 : x < 4294967296) : IntKind.u32.wrap x = x := by simp [IntKind.wrap, IntKind.bits, IntKind.signed]; omega
theorem wrapu8 {x : Int} (h1 : 0 ≤ x) (h2 : x < 256) : IntKind.u8.wrap x = x := by simp [IntKind.wrap, IntKind.bits, IntKind.signed]; omega
theorem ltT {a b : Int} (h : a < b) : (a < b) = True := eq_true h
theorem ltF {a b : Int} (h : b ≤ a) : (a < b) = False := eq_false (by omega)
theorem leT {a b : Int} (h : a ≤ b) : (a ≤ b) = True := eq_true h
theorem leF {a b : Int} (h : b < a) : (a ≤ b) = False := eq_false (by omega)
theorem eqF {a b : Int} (h : a ≠ b) : (a = b) = False := eq_false h
theorem eqT {a b : Int} (h : a = b) : (a = b) = True := eq_true h
theorem nltT {a b : Nat} (h : a < b) : (a < b) = True := eq_true h
theorem nleT {a b : Nat} (h : a ≤ b) : (a ≤ b) = True := eq_true h
theorem neqFn {a b : Nat} (h : a ≠ b) : (a = b) = False := eq_false h
theorem brIf {P : Program} {st : St} {p q : St → Prop} {c : Prop} [Decidable c] (h1 : c → p st) (h2 : ¬ c → q st) : br (decide c) p q st := br_if h1 h2
end Go.Sx
