/-
  A token may do just what it has the right to, for its own tenant, in its own bucket: the law MacRights returns true for every input. Conditions: none.
-/
import Derived.Test.YtbdffcgbleiiaaaMac6
import Derived.Test.YtbdffcgbleiiaaaSx30
import Derived.Test.YtbdffcgbleiiaaaRows
import Derived.ChangeMaps5
namespace Go.Proofs.Ytbdffcgbleiiaaa.macRights
open Go.ChangeShapes Go.WideShapes Go.ChangeAt Go.ChangeMaps Go.RowKit Go.Sx
set_option linter.unusedVariables false
set_option linter.unusedSimpArgs false
theorem own : ownKnob Try.prog.godebug = none := by kernel_rfl
set_option maxRecDepth 100000 in
theorem lifted (os : Os) (started : os.Started) (H : Type) (enc : TypeId × Value → H) :
    ReturnsInHanded {} Try.checked os 9 .any (Rows.macRightsSpec.pre6 enc Try.prog Try.f9 Rows.macRightsRow.domain false) (Rows.macRightsSpec.post enc Try.prog Try.f9 false true false false) := by
  refine law_lift (C := Try.checked) own started (by kernel_rfl) Try.func9
    (ChangeSpec.witness6 (enc := enc) (C := Try.checked) false ⟨#[], #[.agg #[.int .i64 0, .string ByteArray.empty, .int .i64 0, .int .u64 0, .bool false], .int .i64 0, .string ByteArray.empty], []⟩ 8 (by kernel_rfl) (by kernel_rfl) (by kernel_rfl) (by kernel_rfl))
    (by kernel_rfl) (by kernel_rfl) rfl Try.underlying4 rfl (fun ds hl => ?_) fun W base args ds p hval hA => ?_
  · match ds, hl with
    | [_, _, _], _ => exact ⟨rfl, rfl, rfl⟩
  · have hA : DataW.TrodAll enc Try.prog W 0 (fun _ => true) true Try.f9.params.toList args.toList ds p := hA
    have hval : ∀ (j : Nat) t v, Try.f9.params[j]? = some t → args[j]? = some v → Value.okWide Try.prog W .any base t v := hval
    rw [Try.params9] at hA hval
    obtain ⟨v0, vs0, d0, ds0, p0, q0, hargs, rfl, rfl, h0, z0⟩ := trodAll_cons hA
    obtain ⟨v1, vs1, d1, ds1, p1, q1, rfl, rfl, rfl, h1, z1⟩ := trodAll_cons z0
    obtain ⟨v2, vs2, d2, ds2, p2, q2, rfl, rfl, rfl, h2, z2⟩ := trodAll_cons z1
    obtain ⟨rfl, rfl, rfl⟩ := trodAll_nil z2
    obtain rfl : args = #[v0, v1, v2] := by cases args; simp_all
    obtain ⟨cs0, rfl, hcs0⟩ := open_flat (d := 8) (ks := [.i .i64, .s, .i .i64, .i .u64, .b]) (by kernel_rfl) (by kernel_rfl) (hval 0 _ v0 rfl rfl) h0
    obtain ⟨a1, rfl, rfl, rfl, w1⟩ := open_int Try.underlying3 (hval 1 _ v1 rfl rfl) h1
    obtain ⟨s2, rfl, rfl, rfl, hs2⟩ := open_string Try.underlying9 (hval 2 _ v2 rfl rfl) h2
    obtain ⟨t0, k0, rfl, _, g0⟩ := fokI hcs0
    obtain ⟨t1, k1, rfl, _, g1⟩ := fokS g0
    obtain ⟨t2, k2, rfl, _, g2⟩ := fokI g1
    obtain ⟨t3, k3, rfl, w3, g3⟩ := fokI g2
    obtain ⟨t4, k4, rfl, g4⟩ := fokB g3
    obtain rfl := fok0 g4
    obtain ⟨n, rfl, _⟩ := u64_nat w3
    exact macRights_c ⟨t0, t1, t2, n⟩ t4 a1 s2 W

theorem over : Rows.macRightsRow.holds Try.pinned (OpenSpec.ofChange Rows.macRightsSpec) :=
  OpenClaim.holds_of_wide 9 Try.f9 rfl rfl rfl rfl rfl rfl rfl ⟨rfl, rfl, rfl, rfl, rfl⟩ rfl rfl rfl rfl rfl (by kernel_rfl) Try.func9 (by kernel_rfl)
    (of_decide_eq_true (by kernel_rfl)) (by unfold Func.isWrapper; first | (rw [if_pos (by decide +kernel)]; kernel_rfl) | (rw [if_neg (by decide +kernel)]; exact ⟨rfl, rfl⟩))
    (fun os started H enc _ => lifted os started H enc)

theorem proved : Rows.MacRightsSaid := over
#print axioms proved
end Go.Proofs.Ytbdffcgbleiiaaa.macRights
