/-
  Applied in whatever order, transactions are read alike, of whatever key, at whatever snapshot: the law ShardAlike returns true for every input. Conditions: none.
-/
import Derived.Test.YtagjblkfgjcmnaaAlike12M
import Derived.Test.YtagjblkfgjcmnaaM9
import Derived.Test.YtagjblkfgjcmnaaRows
import Derived.ChangeMaps5
namespace Go.Proofs.Ytagjblkfgjcmnaa.shardAlike
open Go.ChangeShapes Go.WideShapes Go.ChangeAt Go.ChangeMaps Go.RowKit Go.Sx
set_option linter.unusedVariables false
set_option linter.unusedSimpArgs false
theorem own : ownKnob Try.prog.godebug = none := by kernel_rfl
set_option maxRecDepth 100000 in
theorem lifted (os : Os) (started : os.Started) (H : Type) (enc : TypeId × Value → H) :
    ReturnsInHanded {} Try.checked os 5 .any (Rows.shardAlikeSpec.pre6 enc Try.prog Try.f5 Rows.shardAlikeRow.domain false) (Rows.shardAlikeSpec.post enc Try.prog Try.f5 false true false false) := by
  refine law_lift (C := Try.checked) own started (by kernel_rfl) Try.func5
    (ChangeSpec.witness6 (enc := enc) (C := Try.checked) false ⟨#[], #[.slice none 0 0, .agg #[.string ByteArray.empty, .string ByteArray.empty, .string ByteArray.empty, .bool false, .bool false, .int .u8 0], .agg #[.int .u64 0, .int .u64 0, .int .u64 0, .int .u64 0, .bool false]], []⟩ 8 (by kernel_rfl) (by kernel_rfl) (by kernel_rfl) (by kernel_rfl))
    (by kernel_rfl) (by kernel_rfl) rfl Try.underlying4 rfl (fun ds hl => ?_) fun W base args ds p hval hA => ?_
  · match ds, hl with
    | [_, _, _], _ => exact ⟨rfl, rfl, rfl⟩
  · have hA : DataW.TrodAll enc Try.prog W 0 (fun _ => true) true Try.f5.params.toList args.toList ds p := hA
    have hval : ∀ (j : Nat) t v, Try.f5.params[j]? = some t → args[j]? = some v → Value.okWide Try.prog W .any base t v := hval
    rw [Try.params5] at hA hval
    obtain ⟨v0, vs0, d0, ds0, p0, q0, hargs, rfl, rfl, h0, z0⟩ := trodAll_cons hA
    obtain ⟨v1, vs1, d1, ds1, p1, q1, rfl, rfl, rfl, h1, z1⟩ := trodAll_cons z0
    obtain ⟨v2, vs2, d2, ds2, p2, q2, rfl, rfl, rfl, h2, z2⟩ := trodAll_cons z1
    obtain ⟨rfl, rfl, rfl⟩ := trodAll_nil z2
    obtain rfl : args = #[v0, v1, v2] := by cases args; simp_all
    obtain ⟨b0, o0, m0, r0, x0, i0, l0, e0, f0, hm0⟩ := open_listN 0 (d := 8) (ks := dlrK) Try.underlying85 (by kernel_rfl) (by kernel_rfl) (by decide) (hval 0 _ v0 rfl rfl) h0
    obtain ⟨cs1, rfl, hcs1⟩ := open_flat (d := 8) (ks := putK) (by kernel_rfl) (by kernel_rfl) (hval 1 _ v1 rfl rfl) h1
    obtain ⟨cs2, rfl, hcs2⟩ := open_flat (d := 8) (ks := vecK) (by kernel_rfl) (by kernel_rfl) (hval 2 _ v2 rfl rfl) h2
    obtain ⟨p, hp, rfl⟩ := put_flat hcs1
    obtain ⟨x, xo, _, rfl⟩ := vec_flat hcs2
    exact shardAlike_c W i0 l0 e0 f0 p hp x xo

theorem over : Rows.shardAlikeRow.holds Try.pinned (OpenSpec.ofChange Rows.shardAlikeSpec) :=
  OpenClaim.holds_of_wide 5 Try.f5 rfl rfl rfl rfl rfl rfl rfl ⟨rfl, rfl, rfl, rfl, rfl⟩ rfl rfl rfl rfl rfl (by kernel_rfl) Try.func5 (by kernel_rfl)
    (of_decide_eq_true (by kernel_rfl)) (by unfold Func.isWrapper; first | (rw [if_pos (by decide +kernel)]; kernel_rfl) | (rw [if_neg (by decide +kernel)]; exact ⟨rfl, rfl⟩))
    (fun os started H enc _ => lifted os started H enc)

theorem proved : Rows.ShardAlikeSaid := over
#print axioms proved
end Go.Proofs.Ytagjblkfgjcmnaa.shardAlike
