/-
  'append' of nothing. Conditions: none.
-/
import Derived.Test.YtbdffcgbleiiaaaSx17
set_option linter.unusedVariables false
namespace Go.Sx
open Go.RowKit
section
variable {P : Program} {C : Cx} {fr : List (Nat × SV)} {hp : List (Nat × Blk)} {nx : Nat}

theorem SOp_put {o : Oper} {K : St → Prop} {st : St} {d : Tmp} (v : SV) (hd : o.dst = some d) (hok : v.ok = true) (h : ∀ ρ a w, Sat C st ρ a w → (execOp a.eval o).run P w = .ok (.value (v.den ρ)) w)
    (hv : ∀ ρ a w, Sat C st ρ a w → ∀ ρ' : Env, (∀ k, k < st.nx → ρ' k = ρ k) → v.den ρ = v.den ρ') (hK : d < C.N ∧ K (st.put (some d) v)) : SOp P C o K st := fun ρ a w hs => by
  refine wp_value (h ρ a w hs) ⟨_, ρ, hK.2, ?_, by simp [St.put], fun _ _ => rfl⟩
  rw [hd]
  exact hs.put hK.1 fun _ ρ' hρ' => hv ρ a w hs ρ' hρ'

/-- 'append' of nothing. -/
theorem sappend_none {d : Tmp} {x y : Operand} {t E ty : TypeId} {pos : String} {af : Array Edge} {g : Option (Nat × Bool)} {K : St → Prop}
    (hx : St.ev ⟨fr, hp, nx⟩ x = .c (.v (.slice none 0 0))) (hy : St.ev ⟨fr, hp, nx⟩ y = .c (.v (.slice none 0 0))) (hk : tkind P t = some (.slc E)) {sz : Nat} (h1 : tsz P E = some sz)
    (hK : d < C.N ∧ K ⟨(d, .c (.v (.slice none 0 0))) :: fr, hp, nx⟩) :
    SOp P C ⟨some d, .call { callee := .builtin .append, args := #[x, y], argTypes := #[t, t] }, ty, pos, af, g⟩ K ⟨fr, hp, nx⟩ := by
  obtain ⟨ds, hu, hds⟩ := kind_of hk
  simp only at hds; subst hds
  refine SOp_put (.c (.v (.slice none 0 0))) rfl rfl (fun ρ a w hs => ?_) (fun _ _ _ _ _ _ => rfl) hK
  simp [execOp, resolve, invoke, builtin, Builtin.append_, ev_c hs.fr' hx rfl, ev_c hs.fr' hy rfl, SV.den, CV.den, run_underlying hu, sizeOf_of h1, Builtin.lenOf, Builtin.firstCells]
end
end Go.Sx
