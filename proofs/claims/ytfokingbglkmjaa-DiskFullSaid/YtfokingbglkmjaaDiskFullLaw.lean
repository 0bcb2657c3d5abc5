/-
  There is just so much room; what does not fit leaves all as it was: the law DiskFull returns true for every input. Conditions: none.
-/
import Derived.Test.YtfokingbglkmjaaDiskD
import Derived.Test.YtfokingbglkmjaaSx16
import Derived.Test.YtfokingbglkmjaaRows
import Derived.ChangeMaps5
namespace Go.Proofs.Ytfokingbglkmjaa.diskFull
open Go.ChangeShapes Go.WideShapes Go.ChangeAt Go.ChangeMaps Go.RowKit Go.Sx
set_option linter.unusedVariables false
set_option linter.unusedSimpArgs false
theorem own : ownKnob Try.prog.godebug = none := by kernel_rfl
set_option maxRecDepth 100000 in
theorem lifted (os : Os) (started : os.Started) (H : Type) (enc : TypeId × Value → H) :
    ReturnsInHanded {} Try.checked os 10 .any (Rows.diskFullSpec.pre6 enc Try.prog Try.f10 Rows.diskFullRow.domain false) (Rows.diskFullSpec.post enc Try.prog Try.f10 false true false false) := by
  refine law_lift_sized (C := Try.checked) own started (by kernel_rfl) Try.func10
    (ChangeSpec.witness6 (enc := enc) (C := Try.checked) false ⟨#[], #[.int .u8 0, .slice none 0 0], []⟩ 8 (by kernel_rfl) (by kernel_rfl) (by kernel_rfl) (by kernel_rfl))
    (by kernel_rfl) (by kernel_rfl) rfl Try.underlying4 rfl (fun ds hl => ?_) fun W base args ds p hval hA hz => ?_
  · match ds, hl with
    | [_, _], _ => exact ⟨rfl, rfl, rfl⟩
  · have hA : DataW.TrodAll enc Try.prog W 0 (fun _ => true) true Try.f10.params.toList args.toList ds p := hA
    have hval : ∀ (j : Nat) t v, Try.f10.params[j]? = some t → args[j]? = some v → Value.okWide Try.prog W .any base t v := hval
    have hz : ∀ (j : Nat) t d, Try.f10.params.toList[j]? = some t → ds[j]? = some d → ∀ n ∈ d.weights Try.prog t, n ≤ 140737488355328 := hz
    rw [Try.params10] at hA hval hz
    obtain ⟨v0, vs0, d0, ds0, p0, q0, hargs, rfl, rfl, h0, z0⟩ := trodAll_cons hA
    obtain ⟨v1, vs1, d1, ds1, p1, q1, rfl, rfl, rfl, h1, z1⟩ := trodAll_cons z0
    obtain ⟨rfl, rfl, rfl⟩ := trodAll_nil z1
    obtain rfl : args = #[v0, v1] := by cases args; simp_all
    obtain ⟨a0, rfl, rfl, rfl, w0⟩ := open_int Try.underlying5 (hval 0 _ v0 rfl rfl) h0
    obtain ⟨b1, o1, m1, r1, x1, i1, l1, e1, f1, hm1⟩ := open_strs 0 140737488355328 Try.underlying89 Try.underlying9 (by kernel_rfl) (hval 1 _ v1 rfl rfl) h1 (hz 1 _ _ rfl rfl)
    obtain ⟨n0, hn0, rfl⟩ := nat_u8 w0
    exact dfull_c W i1 l1 e1 f1 hm1 n0 hn0

theorem over : Rows.diskFullRow.holds Try.pinned (OpenSpec.ofChange Rows.diskFullSpec) :=
  OpenClaim.holds_of_wide 10 Try.f10 rfl rfl rfl rfl rfl rfl rfl ⟨rfl, rfl, rfl, rfl, rfl⟩ rfl rfl rfl rfl rfl (by kernel_rfl) Try.func10 (by kernel_rfl)
    (of_decide_eq_true (by kernel_rfl)) (by unfold Func.isWrapper; first | (rw [if_pos (by decide +kernel)]; kernel_rfl) | (rw [if_neg (by decide +kernel)]; exact ⟨rfl, rfl⟩))
    (fun os started H enc _ => lifted os started H enc)

theorem proved : Rows.DiskFullSaid := over
#print axioms proved
end Go.Proofs.Ytfokingbglkmjaa.diskFull
