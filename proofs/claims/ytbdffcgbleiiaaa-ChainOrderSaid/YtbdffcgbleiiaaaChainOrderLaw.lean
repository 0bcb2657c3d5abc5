/-
  Added in whatever order, versions are read alike, at whatever snapshot; the last one is over all others: the law ChainOrder returns true for every input. Conditions: none.
-/
import Derived.Test.YtbdffcgbleiiaaaOrder9
import Derived.Test.YtbdffcgbleiiaaaSx13
import Derived.Test.YtbdffcgbleiiaaaRows
import Derived.ChangeMaps5
namespace Go.Proofs.Ytbdffcgbleiiaaa.chainOrder
open Go.ChangeShapes Go.WideShapes Go.ChangeAt Go.ChangeMaps Go.RowKit Go.Sx
set_option linter.unusedVariables false
set_option linter.unusedSimpArgs false
theorem own : ownKnob Try.prog.godebug = none := by kernel_rfl
set_option maxRecDepth 100000 in
theorem lifted (os : Os) (started : os.Started) (H : Type) (enc : TypeId × Value → H) :
    ReturnsInHanded {} Try.checked os 4 .any (Rows.chainOrderSpec.pre6 enc Try.prog Try.f4 Rows.chainOrderRow.domain false) (Rows.chainOrderSpec.post enc Try.prog Try.f4 false true false false) := by
  refine law_lift (C := Try.checked) own started (by kernel_rfl) Try.func4
    (ChangeSpec.witness6 (enc := enc) (C := Try.checked) false ⟨#[], #[.slice none 0 0, .agg #[.int .u64 0, .int .u64 0, .int .u64 0, .int .u64 0, .bool false]], []⟩ 8 (by kernel_rfl) (by kernel_rfl) (by kernel_rfl) (by kernel_rfl))
    (by kernel_rfl) (by kernel_rfl) rfl Try.underlying4 rfl (fun ds hl => ?_) fun W base args ds p hval hA => ?_
  · match ds, hl with
    | [_, _], _ => exact ⟨rfl, rfl, rfl⟩
  · have hA : DataW.TrodAll enc Try.prog W 0 (fun _ => true) true Try.f4.params.toList args.toList ds p := hA
    have hval : ∀ (j : Nat) t v, Try.f4.params[j]? = some t → args[j]? = some v → Value.okWide Try.prog W .any base t v := hval
    rw [Try.params4] at hA hval
    obtain ⟨v0, vs0, d0, ds0, p0, q0, hargs, rfl, rfl, h0, z0⟩ := trodAll_cons hA
    obtain ⟨v1, vs1, d1, ds1, p1, q1, rfl, rfl, rfl, h1, z1⟩ := trodAll_cons z0
    obtain ⟨rfl, rfl, rfl⟩ := trodAll_nil z1
    obtain rfl : args = #[v0, v1] := by cases args; simp_all
    obtain ⟨b0, o0, m0, r0, x0, i0, l0, e0, f0, hm0⟩ := open_listc 0 (d := 8) (ks := [.i .u64, .i .u64, .i .u64, .i .u64, .i .i64, .b]) Try.underlying65 (by kernel_rfl) (by kernel_rfl) (by decide) (hval 0 _ v0 rfl rfl) h0
    obtain ⟨cs1, rfl, hcs1⟩ := open_flat (d := 8) (ks := [.i .u64, .i .u64, .i .u64, .i .u64, .b]) (by kernel_rfl) (by kernel_rfl) (hval 1 _ v1 rfl rfl) h1
    obtain ⟨a0, k0, rfl, _, g0⟩ := FOk_i hcs1
    obtain ⟨a1, k1, rfl, _, g1⟩ := FOk_i g0
    obtain ⟨a2, k2, rfl, _, g2⟩ := FOk_i g1
    obtain ⟨a3, k3, rfl, _, g3⟩ := FOk_i g2
    obtain ⟨a4, k4, rfl, g4⟩ := FOk_b g3
    obtain rfl := FOk_0 g4
    exact CI.chainOrder_c W i0 l0 e0 f0 ⟨a0, a1, a2, a3⟩ a4

theorem over : Rows.chainOrderRow.holds Try.pinned (OpenSpec.ofChange Rows.chainOrderSpec) :=
  OpenClaim.holds_of_wide 4 Try.f4 rfl rfl rfl rfl rfl rfl rfl ⟨rfl, rfl, rfl, rfl, rfl⟩ rfl rfl rfl rfl rfl (by kernel_rfl) Try.func4 (by kernel_rfl)
    (of_decide_eq_true (by kernel_rfl)) (by unfold Func.isWrapper; first | (rw [if_pos (by decide +kernel)]; kernel_rfl) | (rw [if_neg (by decide +kernel)]; exact ⟨rfl, rfl⟩))
    (fun os started H enc _ => lifted os started H enc)

theorem proved : Rows.ChainOrderSaid := over
#print axioms proved
end Go.Proofs.Ytbdffcgbleiiaaa.chainOrder
