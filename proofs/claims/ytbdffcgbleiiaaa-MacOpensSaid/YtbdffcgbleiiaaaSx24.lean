/-
  Append of nothing, to something or to nothing. Conditions: none.
-/
import Derived.Test.YtbdffcgbleiiaaaSx22
set_option linter.unusedVariables false
namespace Go.Sx
open Go.RowKit
section
variable {P : Program} {C : Cx} {fr : List (Nat × SV)} {hp : List (Nat × Blk)} {nx : Nat}
theorem sappend_kn {d : Tmp} {x y : Operand} {t E ty : TypeId} {pos : String} {af : Array Edge} {g : Option (Nat × Bool)} {K : St → Prop} {b i n c sz : Nat}
    (hx : St.ev ⟨fr, hp, nx⟩ x = .c (.s b i n c)) (hy : St.ev ⟨fr, hp, nx⟩ y = .c (.v (.slice none 0 0))) (hk : tkind P t = some (.slc E)) (h1 : tsz P E = some sz) (hn : n ≤ c) (hbn : b < nx)
    (hK : d < C.N ∧ K ⟨(d, .c (.s b i n c)) :: fr, hp, nx⟩) :
    SOp P C ⟨some d, .call { callee := .builtin .append, args := #[x, y], argTypes := #[t, t] }, ty, pos, af, g⟩ K ⟨fr, hp, nx⟩ := by
  obtain ⟨ds, hu, hds⟩ := kind_of hk
  simp only at hds; subst hds
  refine SOp_put (.c (.s b i n c)) rfl rfl (fun ρ a w hs => ?_) (fun ρ a w hs ρ' hρ => by simp [SV.den, CV.den, hρ b hbn]) hK
  simp [execOp, resolve, invoke, builtin, Builtin.append_, ev_c hs.fr' hx rfl, ev_c hs.fr' hy rfl, SV.den, CV.den, run_underlying hu, sizeOf_of h1, Builtin.lenOf, Builtin.firstCells, hn, storeCells]
theorem sappend_nk {d : Tmp} {x y : Operand} {t E ty : TypeId} {pos : String} {af : Array Edge} {g : Option (Nat × Bool)} {K : St → Prop} {sz b2 j c2 : Nat}
    (hx : St.ev ⟨fr, hp, nx⟩ x = .c (.v (.slice none 0 0))) (hy : St.ev ⟨fr, hp, nx⟩ y = .c (.s b2 j 0 c2)) (hk : tkind P t = some (.slc E)) (h1 : tsz P E = some sz)
    (hK : d < C.N ∧ K ⟨(d, .c (.v (.slice none 0 0))) :: fr, hp, nx⟩) :
    SOp P C ⟨some d, .call { callee := .builtin .append, args := #[x, y], argTypes := #[t, t] }, ty, pos, af, g⟩ K ⟨fr, hp, nx⟩ := by
  obtain ⟨ds, hu, hds⟩ := kind_of hk
  simp only at hds; subst hds
  refine SOp_put (.c (.v (.slice none 0 0))) rfl rfl (fun ρ a w hs => ?_) (fun _ _ _ _ _ _ => rfl) hK
  have hld : ∀ a0 : Addr, (loadCells a0 0).run P w = .ok #[] w := fun a0 => by simp [loadCells, loadCellsFrom]
  simp [execOp, resolve, invoke, builtin, Builtin.append_, ev_c hs.fr' hx rfl, ev_c hs.fr' hy rfl, SV.den, CV.den, run_underlying hu, sizeOf_of h1, Builtin.lenOf, Builtin.firstCells, hld]
end
end Go.Sx
