/-
  A token opens for the keeper just when it opens for the document: the law MacOpens returns true for every input. Conditions: none.
-/
import Derived.Test.YtbdffcgbleiiaaaMac9
import Derived.Test.YtbdffcgbleiiaaaSx16
import Derived.Test.YtbdffcgbleiiaaaSx30
import Derived.Test.YtbdffcgbleiiaaaRows
import Derived.ChangeMaps5
namespace Go.Proofs.Ytbdffcgbleiiaaa.macOpens
open Go.ChangeShapes Go.WideShapes Go.ChangeAt Go.ChangeMaps Go.RowKit Go.Sx
set_option linter.unusedVariables false
set_option linter.unusedSimpArgs false
theorem own : ownKnob Try.prog.godebug = none := by kernel_rfl
set_option maxRecDepth 100000 in
theorem lifted (os : Os) (started : os.Started) (H : Type) (enc : TypeId × Value → H) :
    ReturnsInHanded {} Try.checked os 8 .any (Rows.macOpensSpec.pre6 enc Try.prog Try.f8 Rows.macOpensRow.domain false) (Rows.macOpensSpec.post enc Try.prog Try.f8 false true false false) := by
  refine law_lift_sized (C := Try.checked) own started (by kernel_rfl) Try.func8
    (ChangeSpec.witness6 (enc := enc) (C := Try.checked) false ⟨#[], #[.agg #[.int .i64 0, .string ByteArray.empty, .int .i64 0, .int .u64 0, .bool false], .string ByteArray.empty, .string ByteArray.empty, .int .u8 0, .int .i64 0, .int .u8 0, .int .u64 0], []⟩ 8 (by kernel_rfl) (by kernel_rfl) (by kernel_rfl) (by kernel_rfl))
    (by kernel_rfl) (by kernel_rfl) rfl Try.underlying4 rfl (fun ds hl => ?_) fun W base args ds p hval hA hz => ?_
  · match ds, hl with
    | [_, _, _, _, _, _, _], _ => exact ⟨rfl, rfl, rfl⟩
  · have hA : DataW.TrodAll enc Try.prog W 0 (fun _ => true) true Try.f8.params.toList args.toList ds p := hA
    have hval : ∀ (j : Nat) t v, Try.f8.params[j]? = some t → args[j]? = some v → Value.okWide Try.prog W .any base t v := hval
    have hz : ∀ (j : Nat) t d, Try.f8.params.toList[j]? = some t → ds[j]? = some d → ∀ n ∈ d.weights Try.prog t, n ≤ 140737488355328 := hz
    rw [Try.params8] at hA hval hz
    obtain ⟨v0, vs0, d0, ds0, p0, q0, hargs, rfl, rfl, h0, z0⟩ := trodAll_cons hA
    obtain ⟨v1, vs1, d1, ds1, p1, q1, rfl, rfl, rfl, h1, z1⟩ := trodAll_cons z0
    obtain ⟨v2, vs2, d2, ds2, p2, q2, rfl, rfl, rfl, h2, z2⟩ := trodAll_cons z1
    obtain ⟨v3, vs3, d3, ds3, p3, q3, rfl, rfl, rfl, h3, z3⟩ := trodAll_cons z2
    obtain ⟨v4, vs4, d4, ds4, p4, q4, rfl, rfl, rfl, h4, z4⟩ := trodAll_cons z3
    obtain ⟨v5, vs5, d5, ds5, p5, q5, rfl, rfl, rfl, h5, z5⟩ := trodAll_cons z4
    obtain ⟨v6, vs6, d6, ds6, p6, q6, rfl, rfl, rfl, h6, z6⟩ := trodAll_cons z5
    obtain ⟨rfl, rfl, rfl⟩ := trodAll_nil z6
    obtain rfl : args = #[v0, v1, v2, v3, v4, v5, v6] := by cases args; simp_all
    obtain ⟨cs0, rfl, hcs0⟩ := open_flat (d := 8) (ks := [.i .i64, .s, .i .i64, .i .u64, .b]) (by kernel_rfl) (by kernel_rfl) (hval 0 _ v0 rfl rfl) h0
    obtain ⟨s1, rfl, rfl, rfl, hs1⟩ := open_string Try.underlying9 (hval 1 _ v1 rfl rfl) h1
    have hz1 : s1.size ≤ 140737488355328 := by
      have := hz 1 _ _ rfl rfl s1.data.toList.length (by simp [DataW.weights])
      simpa using this
    obtain ⟨s2, rfl, rfl, rfl, hs2⟩ := open_string Try.underlying9 (hval 2 _ v2 rfl rfl) h2
    have hz2 : s2.size ≤ 140737488355328 := by
      have := hz 2 _ _ rfl rfl s2.data.toList.length (by simp [DataW.weights])
      simpa using this
    obtain ⟨a3, rfl, rfl, rfl, w3⟩ := open_int Try.underlying5 (hval 3 _ v3 rfl rfl) h3
    obtain ⟨a4, rfl, rfl, rfl, w4⟩ := open_int Try.underlying3 (hval 4 _ v4 rfl rfl) h4
    obtain ⟨a5, rfl, rfl, rfl, w5⟩ := open_int Try.underlying5 (hval 5 _ v5 rfl rfl) h5
    obtain ⟨a6, rfl, rfl, rfl, w6⟩ := open_int Try.underlying30 (hval 6 _ v6 rfl rfl) h6
    obtain ⟨t0, k0, rfl, _, g0⟩ := fokI hcs0
    obtain ⟨t1, k1, rfl, _, g1⟩ := fokS g0
    obtain ⟨t2, k2, rfl, _, g2⟩ := fokI g1
    obtain ⟨t3, k3, rfl, x3, g3⟩ := fokI g2
    obtain ⟨t4, k4, rfl, g4⟩ := fokB g3
    obtain rfl := fok0 g4
    obtain ⟨n, rfl, _⟩ := u64_nat x3
    obtain ⟨n3, rfl, hn3⟩ := u8_nat w3
    obtain ⟨n5, rfl, _⟩ := u8_nat w5
    obtain ⟨n6, rfl, hn6⟩ := u64_nat w6
    have := macOpens_c ⟨t0, t1, t2, n⟩ t4 s1 (by omega) (bl s2) (bl_lt s2) (by rw [bl_len]; exact hz2) n3 hn3 a4 (i64_in w4) n5 n6 hn6 W
    rw [strN_bl] at this
    exact this

theorem over : Rows.macOpensRow.holds Try.pinned (OpenSpec.ofChange Rows.macOpensSpec) :=
  OpenClaim.holds_of_wide 8 Try.f8 rfl rfl rfl rfl rfl rfl rfl ⟨rfl, rfl, rfl, rfl, rfl⟩ rfl rfl rfl rfl rfl (by kernel_rfl) Try.func8 (by kernel_rfl)
    (of_decide_eq_true (by kernel_rfl)) (by unfold Func.isWrapper; first | (rw [if_pos (by decide +kernel)]; kernel_rfl) | (rw [if_neg (by decide +kernel)]; exact ⟨rfl, rfl⟩))
    (fun os started H enc _ => lifted os started H enc)

theorem proved : Rows.MacOpensSaid := over
#print axioms proved
end Go.Proofs.Ytbdffcgbleiiaaa.macOpens
