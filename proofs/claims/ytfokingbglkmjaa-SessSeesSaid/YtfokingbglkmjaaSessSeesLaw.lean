/-
  What a session has seen only rises; what others see changes nothing of it: the law SessSees returns true for every input. Conditions: none.
-/
import Derived.Test.YtfokingbglkmjaaSessB
import Derived.Test.YtfokingbglkmjaaSx13
import Derived.ChangeMaps5
namespace Go.Proofs.Ytfokingbglkmjaa.sessSees
open Go.ChangeShapes Go.WideShapes Go.ChangeAt Go.ChangeMaps Go.RowKit Go.Sx
set_option linter.unusedVariables false
set_option linter.unusedSimpArgs false
theorem own : ownKnob Try.prog.godebug = none := by kernel_rfl
set_option maxRecDepth 100000 in
theorem lifted (os : Os) (started : os.Started) (H : Type) (enc : TypeId × Value → H) :
    ReturnsInHanded {} Try.checked os 6 .any (Rows.sessSeesSpec.pre6 enc Try.prog Try.f6 Rows.sessSeesRow.domain false) (Rows.sessSeesSpec.post enc Try.prog Try.f6 false true false false) := by
  refine law_lift (C := Try.checked) own started (by kernel_rfl) Try.func6
    (ChangeSpec.witness6 (enc := enc) (C := Try.checked) false ⟨#[], #[.slice none 0 0, .slice none 0 0], []⟩ 8 (by kernel_rfl) (by kernel_rfl) (by kernel_rfl) (by kernel_rfl))
    (by kernel_rfl) (by kernel_rfl) rfl Try.underlying4 rfl (fun ds hl => ?_) fun W base args ds p hval hA => ?_
  · match ds, hl with
    | [_, _], _ => exact ⟨rfl, rfl, rfl⟩
  · have hA : DataW.TrodAll enc Try.prog W 0 (fun _ => true) true Try.f6.params.toList args.toList ds p := hA
    have hval : ∀ (j : Nat) t v, Try.f6.params[j]? = some t → args[j]? = some v → Value.okWide Try.prog W .any base t v := hval
    rw [Try.params6] at hA hval
    obtain ⟨v0, vs0, d0, ds0, p0, q0, hargs, rfl, rfl, h0, z0⟩ := trodAll_cons hA
    obtain ⟨v1, vs1, d1, ds1, p1, q1, rfl, rfl, rfl, h1, z1⟩ := trodAll_cons z0
    obtain ⟨rfl, rfl, rfl⟩ := trodAll_nil z1
    obtain rfl : args = #[v0, v1] := by cases args; simp_all
    obtain ⟨b0, o0, m0, r0, x0, i0, l0, e0, f0, hm0⟩ := open_list 0 (d := 8) (ks := [.i .u64, .i .u64, .i .u64, .i .u64, .b]) Try.underlying80 (by kernel_rfl) (by kernel_rfl) (by decide) (hval 0 _ v0 rfl rfl) h0
    obtain ⟨b1, o1, m1, r1, x1, i1, l1, e1, f1, hm1⟩ := open_list 1 (d := 8) (ks := [.i .u8]) Try.underlying84 (by kernel_rfl) (by kernel_rfl) (by decide) (hval 1 _ v1 rfl rfl) h1
    exact sessSees_c W i0 i1 l0 l1 e0 e1 f0 f1

theorem over : Rows.sessSeesRow.holds Try.pinned (OpenSpec.ofChange Rows.sessSeesSpec) :=
  OpenClaim.holds_of_wide 6 Try.f6 rfl rfl rfl rfl rfl rfl rfl ⟨rfl, rfl, rfl, rfl, rfl⟩ rfl rfl rfl rfl rfl (by kernel_rfl) Try.func6 (by kernel_rfl)
    (of_decide_eq_true (by kernel_rfl)) (by unfold Func.isWrapper; first | (rw [if_pos (by decide +kernel)]; kernel_rfl) | (rw [if_neg (by decide +kernel)]; exact ⟨rfl, rfl⟩))
    (fun os started H enc _ => lifted os started H enc)

theorem proved : Rows.SessSeesSaid := over
#print axioms proved
end Go.Proofs.Ytfokingbglkmjaa.sessSees
