/-
  A list handed in, and how much room it has. Conditions: none.
-/
import Derived.Test.YtbdffcgbleiiaaaSx13
set_option linter.unusedVariables false
namespace Go.Sx
open Go.RowKit Go.ChangeShapes Go.WideShapes
def LArgC (k m : Nat) (x : CV) : Prop := (x = .v (.slice none 0 0) ∧ m = 0) ∨ ∃ cap, m ≤ cap ∧ x = .s k 0 m cap
section
variable {H : Type} {enc : TypeId × Value → H} {P : Program} {W W' : World}
variable {base : Nat} {spare : Nat → Bool} {held : Bool}
theorem open_listc (k : Nat) {d : Nat} {t e : TypeId} {ks : List FK} {r : Reach} {b0 : Nat} {v : Value} {dd : DataW H} {ps : List MemPlace} (ht : P.underlying t = some (.slice e)) (hk : flatIn P d e = some ks) (hc : P.cellsOf e = ks.length) (h0 : 0 < ks.length) (hval : Value.okWide P W r b0 t v) (h : DataW.Trod enc P W base spare held t v dd ps) :
    ∃ (b off m : Nat) (r : Nat → List Value) (x : CV), ImmAt W b off ks.length m r ∧ LArgC k m x ∧ (∀ ρ : Env, ρ k = ⟨b, off, ks.length⟩ → x.den ρ = v) ∧ (∀ i, i < m → FOk ks (r i)) ∧ m ≤ maxLen := by
  rcases open_flats ht hk hc h0 hval h with rfl | ⟨b, off, len, cap, r, rfl, hl, hm, hi, hf⟩
  · exact ⟨0, 0, 0, fun _ => [], .v (.slice none 0 0), ⟨fun h => by omega, fun i h => by omega, fun i h => by omega⟩, .inl ⟨rfl, rfl⟩, fun _ _ => rfl, fun i h => by omega, by omega⟩
  · exact ⟨b, off, len, r, .s k 0 len cap, hi, .inr ⟨cap, hl, rfl⟩, fun ρ hρ => by simp [CV.den, hρ], hf, by omega⟩
end
end Go.Sx
