/-
  How far all was applied only rises, of each datacenter to the greatest number that was applied: the law ShardApplied returns true for every input. Conditions: none.
-/
import Derived.Test.YtagjblkfgjcmnaaApplied10M
import Derived.Test.YtagjblkfgjcmnaaM9
import Derived.Test.YtagjblkfgjcmnaaRows
import Derived.ChangeMaps5
namespace Go.Proofs.Ytagjblkfgjcmnaa.shardApplied
open Go.ChangeShapes Go.WideShapes Go.ChangeAt Go.ChangeMaps Go.RowKit Go.Sx
set_option linter.unusedVariables false
set_option linter.unusedSimpArgs false
theorem own : ownKnob Try.prog.godebug = none := by kernel_rfl
set_option maxRecDepth 100000 in
theorem lifted (os : Os) (started : os.Started) (H : Type) (enc : TypeId × Value → H) :
    ReturnsInHanded {} Try.checked os 7 .any (Rows.shardAppliedSpec.pre6 enc Try.prog Try.f7 Rows.shardAppliedRow.domain false) (Rows.shardAppliedSpec.post enc Try.prog Try.f7 false true false false) := by
  refine law_lift (C := Try.checked) own started (by kernel_rfl) Try.func7
    (ChangeSpec.witness6 (enc := enc) (C := Try.checked) false ⟨#[], #[.slice none 0 0], []⟩ 8 (by kernel_rfl) (by kernel_rfl) (by kernel_rfl) (by kernel_rfl))
    (by kernel_rfl) (by kernel_rfl) rfl Try.underlying4 rfl (fun ds hl => ?_) fun W base args ds p hval hA => ?_
  · match ds, hl with
    | [_], _ => exact ⟨rfl, rfl, rfl⟩
  · have hA : DataW.TrodAll enc Try.prog W 0 (fun _ => true) true Try.f7.params.toList args.toList ds p := hA
    have hval : ∀ (j : Nat) t v, Try.f7.params[j]? = some t → args[j]? = some v → Value.okWide Try.prog W .any base t v := hval
    rw [Try.params7] at hA hval
    obtain ⟨v0, vs0, d0, ds0, p0, q0, hargs, rfl, rfl, h0, z0⟩ := trodAll_cons hA
    obtain ⟨rfl, rfl, rfl⟩ := trodAll_nil z0
    obtain rfl : args = #[v0] := by cases args; simp_all
    obtain ⟨b0, o0, m0, r0, x0, i0, l0, e0, f0, hm0⟩ := open_listN 0 (d := 8) (ks := dlrK) Try.underlying85 (by kernel_rfl) (by kernel_rfl) (by decide) (hval 0 _ v0 rfl rfl) h0
    exact shardApplied_c W i0 l0 e0 f0

theorem over : Rows.shardAppliedRow.holds Try.pinned (OpenSpec.ofChange Rows.shardAppliedSpec) :=
  OpenClaim.holds_of_wide 7 Try.f7 rfl rfl rfl rfl rfl rfl rfl ⟨rfl, rfl, rfl, rfl, rfl⟩ rfl rfl rfl rfl rfl (by kernel_rfl) Try.func7 (by kernel_rfl)
    (of_decide_eq_true (by kernel_rfl)) (by unfold Func.isWrapper; first | (rw [if_pos (by decide +kernel)]; kernel_rfl) | (rw [if_neg (by decide +kernel)]; exact ⟨rfl, rfl⟩))
    (fun os started H enc _ => lifted os started H enc)

theorem proved : Rows.ShardAppliedSaid := over
#print axioms proved
end Go.Proofs.Ytagjblkfgjcmnaa.shardApplied
