/-
  Pruned, whatever is read at the horizon, or beyond it, is as it was; of what is seen at it one is left at most: the law ChainPrunes returns true for every input. Conditions: none.
-/
import Derived.Test.YtbdffcgbleiiaaaPrunes9
import Derived.Test.YtbdffcgbleiiaaaSx13
import Derived.Test.YtbdffcgbleiiaaaRows
import Derived.ChangeMaps5
namespace Go.Proofs.Ytbdffcgbleiiaaa.chainPrunes
open Go.ChangeShapes Go.WideShapes Go.ChangeAt Go.ChangeMaps Go.RowKit Go.Sx
set_option linter.unusedVariables false
set_option linter.unusedSimpArgs false
theorem own : ownKnob Try.prog.godebug = none := by kernel_rfl
set_option maxRecDepth 100000 in
theorem lifted (os : Os) (started : os.Started) (H : Type) (enc : TypeId × Value → H) :
    ReturnsInHanded {} Try.checked os 5 .any (Rows.chainPrunesSpec.pre6 enc Try.prog Try.f5 Rows.chainPrunesRow.domain false) (Rows.chainPrunesSpec.post enc Try.prog Try.f5 false true false false) := by
  refine law_lift (C := Try.checked) own started (by kernel_rfl) Try.func5
    (ChangeSpec.witness6 (enc := enc) (C := Try.checked) false ⟨#[], #[.slice none 0 0, .agg #[.int .u64 0, .int .u64 0, .int .u64 0, .int .u64 0, .bool false], .agg #[.int .u64 0, .int .u64 0, .int .u64 0, .int .u64 0, .bool false]], []⟩ 8 (by kernel_rfl) (by kernel_rfl) (by kernel_rfl) (by kernel_rfl))
    (by kernel_rfl) (by kernel_rfl) rfl Try.underlying4 rfl (fun ds hl => ?_) fun W base args ds p hval hA => ?_
  · match ds, hl with
    | [_, _, _], _ => exact ⟨rfl, rfl, rfl⟩
  · have hA : DataW.TrodAll enc Try.prog W 0 (fun _ => true) true Try.f5.params.toList args.toList ds p := hA
    have hval : ∀ (j : Nat) t v, Try.f5.params[j]? = some t → args[j]? = some v → Value.okWide Try.prog W .any base t v := hval
    rw [Try.params5] at hA hval
    obtain ⟨v0, vs0, d0, ds0, p0, q0, hargs, rfl, rfl, h0, z0⟩ := trodAll_cons hA
    obtain ⟨v1, vs1, d1, ds1, p1, q1, rfl, rfl, rfl, h1, z1⟩ := trodAll_cons z0
    obtain ⟨v2, vs2, d2, ds2, p2, q2, rfl, rfl, rfl, h2, z2⟩ := trodAll_cons z1
    obtain ⟨rfl, rfl, rfl⟩ := trodAll_nil z2
    obtain rfl : args = #[v0, v1, v2] := by cases args; simp_all
    obtain ⟨b0, o0, m0, r0, x0, i0, l0, e0, f0, hm0⟩ := open_list 0 (d := 8) (ks := [.i .u64, .i .u64, .i .u64, .i .u64, .i .i64, .b]) Try.underlying65 (by kernel_rfl) (by kernel_rfl) (by decide) (hval 0 _ v0 rfl rfl) h0
    obtain ⟨cs1, rfl, hcs1⟩ := open_flat (d := 8) (ks := [.i .u64, .i .u64, .i .u64, .i .u64, .b]) (by kernel_rfl) (by kernel_rfl) (hval 1 _ v1 rfl rfl) h1
    obtain ⟨cs2, rfl, hcs2⟩ := open_flat (d := 8) (ks := [.i .u64, .i .u64, .i .u64, .i .u64, .b]) (by kernel_rfl) (by kernel_rfl) (hval 2 _ v2 rfl rfl) h2
    obtain ⟨a0, k0, rfl, _, g0⟩ := FOk_i hcs1
    obtain ⟨a1, k1, rfl, _, g1⟩ := FOk_i g0
    obtain ⟨a2, k2, rfl, _, g2⟩ := FOk_i g1
    obtain ⟨a3, k3, rfl, _, g3⟩ := FOk_i g2
    obtain ⟨a4, k4, rfl, g4⟩ := FOk_b g3
    obtain rfl := FOk_0 g4
    obtain ⟨c0, j0, rfl, _, u0⟩ := FOk_i hcs2
    obtain ⟨c1, j1, rfl, _, u1⟩ := FOk_i u0
    obtain ⟨c2, j2, rfl, _, u2⟩ := FOk_i u1
    obtain ⟨c3, j3, rfl, _, u3⟩ := FOk_i u2
    obtain ⟨c4, j4, rfl, u4⟩ := FOk_b u3
    obtain rfl := FOk_0 u4
    exact CI.chainPrunes_c W i0 l0 e0 f0 ⟨a0, a1, a2, a3⟩ a4 ⟨c0, c1, c2, c3⟩ c4

theorem over : Rows.chainPrunesRow.holds Try.pinned (OpenSpec.ofChange Rows.chainPrunesSpec) :=
  OpenClaim.holds_of_wide 5 Try.f5 rfl rfl rfl rfl rfl rfl rfl ⟨rfl, rfl, rfl, rfl, rfl⟩ rfl rfl rfl rfl rfl (by kernel_rfl) Try.func5 (by kernel_rfl)
    (of_decide_eq_true (by kernel_rfl)) (by unfold Func.isWrapper; first | (rw [if_pos (by decide +kernel)]; kernel_rfl) | (rw [if_neg (by decide +kernel)]; exact ⟨rfl, rfl⟩))
    (fun os started H enc _ => lifted os started H enc)

theorem proved : Rows.ChainPrunesSaid := over
#print axioms proved
end Go.Proofs.Ytbdffcgbleiiaaa.chainPrunes
