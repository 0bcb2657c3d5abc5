/-
  What one session writes no other one has; what it wrote last of a key it has, once; ended, it has nothing: the law SessOwn returns true for every input. Conditions: none.
-/
import Derived.Test.YtfokingbglkmjaaSessF
import Derived.Test.YtfokingbglkmjaaSx13
import Derived.ChangeMaps5
namespace Go.Proofs.Ytfokingbglkmjaa.sessOwn
open Go.ChangeShapes Go.WideShapes Go.ChangeAt Go.ChangeMaps Go.RowKit Go.Sx
set_option linter.unusedVariables false
set_option linter.unusedSimpArgs false
theorem own : ownKnob Try.prog.godebug = none := by kernel_rfl
set_option maxRecDepth 100000 in
theorem lifted (os : Os) (started : os.Started) (H : Type) (enc : TypeId × Value → H) :
    ReturnsInHanded {} Try.checked os 4 .any (Rows.sessOwnSpec.pre6 enc Try.prog Try.f4 Rows.sessOwnRow.domain false) (Rows.sessOwnSpec.post enc Try.prog Try.f4 false true false false) := by
  refine law_lift (C := Try.checked) own started (by kernel_rfl) Try.func4
    (ChangeSpec.witness6 (enc := enc) (C := Try.checked) false ⟨#[], #[.int .u8 0, .int .u8 0, .slice none 0 0, .agg #[.int .u64 0, .int .u64 0, .int .u64 0, .int .u64 0, .bool false]], []⟩ 8 (by kernel_rfl) (by kernel_rfl) (by kernel_rfl) (by kernel_rfl))
    (by kernel_rfl) (by kernel_rfl) rfl Try.underlying4 rfl (fun ds hl => ?_) fun W base args ds p hval hA => ?_
  · match ds, hl with
    | [_, _, _, _], _ => exact ⟨rfl, rfl, rfl⟩
  · have hA : DataW.TrodAll enc Try.prog W 0 (fun _ => true) true Try.f4.params.toList args.toList ds p := hA
    have hval : ∀ (j : Nat) t v, Try.f4.params[j]? = some t → args[j]? = some v → Value.okWide Try.prog W .any base t v := hval
    rw [Try.params4] at hA hval
    obtain ⟨v0, vs0, d0, ds0, p0, q0, hargs, rfl, rfl, h0, z0⟩ := trodAll_cons hA
    obtain ⟨v1, vs1, d1, ds1, p1, q1, rfl, rfl, rfl, h1, z1⟩ := trodAll_cons z0
    obtain ⟨v2, vs2, d2, ds2, p2, q2, rfl, rfl, rfl, h2, z2⟩ := trodAll_cons z1
    obtain ⟨v3, vs3, d3, ds3, p3, q3, rfl, rfl, rfl, h3, z3⟩ := trodAll_cons z2
    obtain ⟨rfl, rfl, rfl⟩ := trodAll_nil z3
    obtain rfl : args = #[v0, v1, v2, v3] := by cases args; simp_all
    obtain ⟨a0, rfl, rfl, rfl, w0⟩ := open_int Try.underlying5 (hval 0 _ v0 rfl rfl) h0
    obtain ⟨a1, rfl, rfl, rfl, w1⟩ := open_int Try.underlying5 (hval 1 _ v1 rfl rfl) h1
    obtain ⟨b2, o2, m2, r2, x2, i2, l2, e2, f2, hm2⟩ := open_list 0 (d := 8) (ks := [.s, .s, .s, .b, .b, .i .u8]) Try.underlying75 (by kernel_rfl) (by kernel_rfl) (by decide) (hval 2 _ v2 rfl rfl) h2
    obtain ⟨cs3, rfl, hcs3⟩ := open_flat (d := 8) (ks := [.i .u64, .i .u64, .i .u64, .i .u64, .b]) (by kernel_rfl) (by kernel_rfl) (hval 3 _ v3 rfl rfl) h3
    obtain ⟨n0, hn0, rfl⟩ := u8_of w0
    obtain ⟨n1, hn1, rfl⟩ := u8_of w1
    match cs3, hcs3 with
    | [_, _, _, _, _], ⟨⟨x0, rfl, _⟩, ⟨x1, rfl, _⟩, ⟨x2, rfl, _⟩, ⟨x3, rfl, _⟩, ⟨b, rfl⟩, _⟩ => exact sessOwn_c W n0 n1 hn0 hn1 i2 l2 e2 f2 hm2 ⟨x0, x1, x2, x3⟩ b

theorem over : Rows.sessOwnRow.holds Try.pinned (OpenSpec.ofChange Rows.sessOwnSpec) :=
  OpenClaim.holds_of_wide 4 Try.f4 rfl rfl rfl rfl rfl rfl rfl ⟨rfl, rfl, rfl, rfl, rfl⟩ rfl rfl rfl rfl rfl (by kernel_rfl) Try.func4 (by kernel_rfl)
    (of_decide_eq_true (by kernel_rfl)) (by unfold Func.isWrapper; first | (rw [if_pos (by decide +kernel)]; kernel_rfl) | (rw [if_neg (by decide +kernel)]; exact ⟨rfl, rfl⟩))
    (fun os started H enc _ => lifted os started H enc)

theorem proved : Rows.SessOwnSaid := over
#print axioms proved
end Go.Proofs.Ytfokingbglkmjaa.sessOwn
