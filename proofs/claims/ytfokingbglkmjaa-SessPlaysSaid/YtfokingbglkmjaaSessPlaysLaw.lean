/-
  Sessions see, begin, write, end, deed by deed, as the chapter says: snapshots, writes, what was seen, the horizon: the law SessPlays returns true for every input. Conditions: none.
-/
import Derived.Test.YtfokingbglkmjaaSessI
import Derived.Test.YtfokingbglkmjaaSx13
import Derived.Test.YtfokingbglkmjaaRows
import Derived.ChangeMaps5
namespace Go.Proofs.Ytfokingbglkmjaa.sessPlays
open Go.ChangeShapes Go.WideShapes Go.ChangeAt Go.ChangeMaps Go.RowKit Go.Sx
set_option linter.unusedVariables false
set_option linter.unusedSimpArgs false
theorem own : ownKnob Try.prog.godebug = none := by kernel_rfl
set_option maxRecDepth 100000 in
theorem lifted (os : Os) (started : os.Started) (H : Type) (enc : TypeId × Value → H) :
    ReturnsInHanded {} Try.checked os 3 .any (Rows.sessPlaysSpec.pre6 enc Try.prog Try.f3 Rows.sessPlaysRow.domain false) (Rows.sessPlaysSpec.post enc Try.prog Try.f3 false true false false) := by
  refine law_lift (C := Try.checked) own started (by kernel_rfl) Try.func3
    (ChangeSpec.witness6 (enc := enc) (C := Try.checked) false ⟨#[], #[.slice none 0 0, .agg #[.int .u64 0, .int .u64 0, .int .u64 0, .int .u64 0, .bool false]], []⟩ 8 (by kernel_rfl) (by kernel_rfl) (by kernel_rfl) (by kernel_rfl))
    (by kernel_rfl) (by kernel_rfl) rfl Try.underlying4 rfl (fun ds hl => ?_) fun W base args ds p hval hA => ?_
  · match ds, hl with
    | [_, _], _ => exact ⟨rfl, rfl, rfl⟩
  · have hA : DataW.TrodAll enc Try.prog W 0 (fun _ => true) true Try.f3.params.toList args.toList ds p := hA
    have hval : ∀ (j : Nat) t v, Try.f3.params[j]? = some t → args[j]? = some v → Value.okWide Try.prog W .any base t v := hval
    rw [Try.params3] at hA hval
    obtain ⟨v0, vs0, d0, ds0, p0, q0, hargs, rfl, rfl, h0, z0⟩ := trodAll_cons hA
    obtain ⟨v1, vs1, d1, ds1, p1, q1, rfl, rfl, rfl, h1, z1⟩ := trodAll_cons z0
    obtain ⟨rfl, rfl, rfl⟩ := trodAll_nil z1
    obtain rfl : args = #[v0, v1] := by cases args; simp_all
    obtain ⟨b0, o0, m0, r0, x0, i0, l0, e0, f0, hm0⟩ := open_list 0 (d := 8) (ks := [.i .u8, .i .i64, .i .u64, .i .u64, .i .u64, .i .u64, .b, .s, .s, .s, .b, .b, .i .u8, .b]) Try.underlying22 (by kernel_rfl) (by kernel_rfl) (by decide) (hval 0 _ v0 rfl rfl) h0
    obtain ⟨cs1, rfl, hcs1⟩ := open_flat (d := 8) (ks := [.i .u64, .i .u64, .i .u64, .i .u64, .b]) (by kernel_rfl) (by kernel_rfl) (hval 1 _ v1 rfl rfl) h1
    obtain ⟨x0v, l1, rfl, _, g1⟩ := fok_i hcs1
    obtain ⟨x1v, l2, rfl, _, g2⟩ := fok_i g1
    obtain ⟨x2v, l3, rfl, _, g3⟩ := fok_i g2
    obtain ⟨x3v, l4, rfl, _, g4⟩ := fok_i g3
    obtain ⟨bv, l5, rfl, g5⟩ := fok_b g4
    obtain rfl := fok_n g5
    exact sessPlays_c W i0 l0 e0 f0 hm0 ⟨x0v, x1v, x2v, x3v⟩ bv

theorem over : Rows.sessPlaysRow.holds Try.pinned (OpenSpec.ofChange Rows.sessPlaysSpec) :=
  OpenClaim.holds_of_wide 3 Try.f3 rfl rfl rfl rfl rfl rfl rfl ⟨rfl, rfl, rfl, rfl, rfl⟩ rfl rfl rfl rfl rfl (by kernel_rfl) Try.func3 (by kernel_rfl)
    (of_decide_eq_true (by kernel_rfl)) (by unfold Func.isWrapper; first | (rw [if_pos (by decide +kernel)]; kernel_rfl) | (rw [if_neg (by decide +kernel)]; exact ⟨rfl, rfl⟩))
    (fun os started H enc _ => lifted os started H enc)

theorem proved : Rows.SessPlaysSaid := over
#print axioms proved
end Go.Proofs.Ytfokingbglkmjaa.sessPlays
