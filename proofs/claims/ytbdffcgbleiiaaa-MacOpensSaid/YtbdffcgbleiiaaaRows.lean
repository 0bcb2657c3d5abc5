/-
  No cell of these rows narrows 'for every input' (looked for: loops, veiled, ifaces, maps, wideKeys, modest, calm, conditions, laid).
  DERIVED. THE GIVEN ROWS OF THIS SEAT. 8 by the template 'for every input the law returns true; each argument reads behind the call as it read before'; 0 by the template 'total and deterministic' (their statements: YtbdffcgbleiiaaaTotals.lean).
  GIVEN WITH THE SEED: the statements are not yours to turn. If you find one false, say at which input.
  Laid BY PROGRAM, IN A SANDBOX (cutbox-rows.mjs): the forced cells as the released guide's own fill.sh prints them over the translation 4134da07014e06f6… (all of the seat's roots in one cut). By AI agents, Wed Nov 11 2026. No macro, syntax, notation, axiom, sorry.
-/
import Derived.Test.YtbdffcgbleiiaaaChecked
import GoSem.Claim
import GoSem.ClaimJoined
import GoSem.ClaimMapViews
import Derived.JoinedTies
import Derived.KernelRfl
namespace Go.Proofs.Ytbdffcgbleiiaaa
/- THE CELL 'sum', in the pinned program and in every row, IS THE sha256 OF THE DUMP (.gsa) THAT YtbdffcgbleiiaaaProg.lean LOADS. Nothing in Lean hashes anything: it is a label: what it is worth is what the hold of that sum in a sandbox is worth. -/
noncomputable def Try.pinned : Pinned := { name := "ytbdffcgbleiiaaa", sum := "4134da07014e06f61d22f4086068729fe66b988dff2fe84d70bc75d4cdfa4216", checked := Try.checked }
namespace Rows
def none {H : Type} : Left H := { results := [], args := [] }

/-- 'tenementlaw09.ChainPlays': WHATEVER THE INPUT: true; the input reads as it did. -/
def chainPlaysSpec : ChangeSpec := { name := "chainPlays", fn := fun _ => fun
  | [d] => { results := [.lit (.bool true)], args := [d] }
  | _ => none }
def chainPlaysRow : OpenClaim := { program := "ytbdffcgbleiiaaa", sum := "4134da07014e06f61d22f4086068729fe66b988dff2fe84d70bc75d4cdfa4216", func := "tenement/tenementlaw09.ChainPlays", spec := "chainPlays", inPlace := ["slices.overlaps[tenement/chain.Version[string]]"], unfollowed := true, recurses := true, apart := false }
def ChainPlaysSaid : Prop := chainPlaysRow.holds Try.pinned (OpenSpec.ofChange chainPlaysSpec)

/-- ITS FALSE NEIGHBOUR: 'it returns false'. Refute it at one input. -/
def chainPlaysWrong : ChangeSpec := { name := "chainPlays", fn := fun _ => fun
  | [d] => { results := [.lit (.bool false)], args := [d] }
  | _ => none }
def ChainPlaysWrongFalsely : Prop := chainPlaysRow.holds Try.pinned (OpenSpec.ofChange chainPlaysWrong)

/-- 'tenementlaw09.ChainOrder': WHATEVER THE INPUT: true; the input reads as it did. -/
def chainOrderSpec : ChangeSpec := { name := "chainOrder", fn := fun _ => fun
  | [d1, d2] => { results := [.lit (.bool true)], args := [d1, d2] }
  | _ => none }
def chainOrderRow : OpenClaim := { program := "ytbdffcgbleiiaaa", sum := "4134da07014e06f61d22f4086068729fe66b988dff2fe84d70bc75d4cdfa4216", func := "tenement/tenementlaw09.ChainOrder", spec := "chainOrder", inPlace := ["slices.overlaps[tenement/chain.Version[string]]", "slices.overlaps[tenement/chain.Version[int]]"], unfollowed := true, recurses := true, apart := false }
def ChainOrderSaid : Prop := chainOrderRow.holds Try.pinned (OpenSpec.ofChange chainOrderSpec)

/-- ITS FALSE NEIGHBOUR: 'it returns false'. Refute it at one input. -/
def chainOrderWrong : ChangeSpec := { name := "chainOrder", fn := fun _ => fun
  | [d1, d2] => { results := [.lit (.bool false)], args := [d1, d2] }
  | _ => none }
def ChainOrderWrongFalsely : Prop := chainOrderRow.holds Try.pinned (OpenSpec.ofChange chainOrderWrong)

/-- 'tenementlaw09.ChainPrunes': WHATEVER THE INPUT: true; the input reads as it did. -/
def chainPrunesSpec : ChangeSpec := { name := "chainPrunes", fn := fun _ => fun
  | [d1, d2, d3] => { results := [.lit (.bool true)], args := [d1, d2, d3] }
  | _ => none }
def chainPrunesRow : OpenClaim := { program := "ytbdffcgbleiiaaa", sum := "4134da07014e06f61d22f4086068729fe66b988dff2fe84d70bc75d4cdfa4216", func := "tenement/tenementlaw09.ChainPrunes", spec := "chainPrunes", inPlace := ["slices.overlaps[tenement/chain.Version[string]]", "slices.overlaps[tenement/chain.Version[int]]"], unfollowed := true, recurses := true, apart := false }
def ChainPrunesSaid : Prop := chainPrunesRow.holds Try.pinned (OpenSpec.ofChange chainPrunesSpec)

/-- ITS FALSE NEIGHBOUR: 'it returns false'. Refute it at one input. -/
def chainPrunesWrong : ChangeSpec := { name := "chainPrunes", fn := fun _ => fun
  | [d1, d2, d3] => { results := [.lit (.bool false)], args := [d1, d2, d3] }
  | _ => none }
def ChainPrunesWrongFalsely : Prop := chainPrunesRow.holds Try.pinned (OpenSpec.ofChange chainPrunesWrong)

/-- 'tenementlaw09.ChainAdds': WHATEVER THE INPUT: true; the input reads as it did. -/
def chainAddsSpec : ChangeSpec := { name := "chainAdds", fn := fun _ => fun
  | [d] => { results := [.lit (.bool true)], args := [d] }
  | _ => none }
def chainAddsRow : OpenClaim := { program := "ytbdffcgbleiiaaa", sum := "4134da07014e06f61d22f4086068729fe66b988dff2fe84d70bc75d4cdfa4216", func := "tenement/tenementlaw09.ChainAdds", spec := "chainAdds", inPlace := ["slices.overlaps[tenement/chain.Version[string]]", "slices.overlaps[tenement/chain.Version[int]]"], unfollowed := true, recurses := true, apart := false }
def ChainAddsSaid : Prop := chainAddsRow.holds Try.pinned (OpenSpec.ofChange chainAddsSpec)

/-- ITS FALSE NEIGHBOUR: 'it returns false'. Refute it at one input. -/
def chainAddsWrong : ChangeSpec := { name := "chainAdds", fn := fun _ => fun
  | [d] => { results := [.lit (.bool false)], args := [d] }
  | _ => none }
def ChainAddsWrongFalsely : Prop := chainAddsRow.holds Try.pinned (OpenSpec.ofChange chainAddsWrong)

/-- 'tenementlaw04.MacSums': WHATEVER THE INPUT: true; the input reads as it did. -/
def macSumsSpec : ChangeSpec := { name := "macSums", fn := fun _ => fun
  | [d1, d2, d3, d4, d5, d6] => { results := [.lit (.bool true)], args := [d1, d2, d3, d4, d5, d6] }
  | _ => none }
def macSumsRow : OpenClaim := { program := "ytbdffcgbleiiaaa", sum := "4134da07014e06f61d22f4086068729fe66b988dff2fe84d70bc75d4cdfa4216", func := "tenement/tenementlaw04.MacSums", spec := "macSums", inPlace := ["internal/abi.NoEscape", "internal/bytealg.MakeNoZero"], apart := false }
def MacSumsSaid : Prop := macSumsRow.holds Try.pinned (OpenSpec.ofChange macSumsSpec)

/-- ITS FALSE NEIGHBOUR: 'it returns false'. Refute it at one input. -/
def macSumsWrong : ChangeSpec := { name := "macSums", fn := fun _ => fun
  | [d1, d2, d3, d4, d5, d6] => { results := [.lit (.bool false)], args := [d1, d2, d3, d4, d5, d6] }
  | _ => none }
def MacSumsWrongFalsely : Prop := macSumsRow.holds Try.pinned (OpenSpec.ofChange macSumsWrong)

/-- 'tenementlaw04.MacOpens': WHATEVER THE INPUT: true; the input reads as it did. -/
def macOpensSpec : ChangeSpec := { name := "macOpens", fn := fun _ => fun
  | [d1, d2, d3, d4, d5, d6, d7] => { results := [.lit (.bool true)], args := [d1, d2, d3, d4, d5, d6, d7] }
  | _ => none }
def macOpensRow : OpenClaim := { program := "ytbdffcgbleiiaaa", sum := "4134da07014e06f61d22f4086068729fe66b988dff2fe84d70bc75d4cdfa4216", func := "tenement/tenementlaw04.MacOpens", spec := "macOpens", inPlace := ["internal/abi.NoEscape", "internal/bytealg.MakeNoZero"], apart := false }
def MacOpensSaid : Prop := macOpensRow.holds Try.pinned (OpenSpec.ofChange macOpensSpec)

/-- ITS FALSE NEIGHBOUR: 'it returns false'. Refute it at one input. -/
def macOpensWrong : ChangeSpec := { name := "macOpens", fn := fun _ => fun
  | [d1, d2, d3, d4, d5, d6, d7] => { results := [.lit (.bool false)], args := [d1, d2, d3, d4, d5, d6, d7] }
  | _ => none }
def MacOpensWrongFalsely : Prop := macOpensRow.holds Try.pinned (OpenSpec.ofChange macOpensWrong)

/-- 'tenementlaw04.MacRights': WHATEVER THE INPUT: true; the input reads as it did. -/
def macRightsSpec : ChangeSpec := { name := "macRights", fn := fun _ => fun
  | [d1, d2, d3] => { results := [.lit (.bool true)], args := [d1, d2, d3] }
  | _ => none }
def macRightsRow : OpenClaim := { program := "ytbdffcgbleiiaaa", sum := "4134da07014e06f61d22f4086068729fe66b988dff2fe84d70bc75d4cdfa4216", func := "tenement/tenementlaw04.MacRights", spec := "macRights", inPlace := ["internal/abi.NoEscape", "internal/bytealg.MakeNoZero"], apart := false }
def MacRightsSaid : Prop := macRightsRow.holds Try.pinned (OpenSpec.ofChange macRightsSpec)

/-- ITS FALSE NEIGHBOUR: 'it returns false'. Refute it at one input. -/
def macRightsWrong : ChangeSpec := { name := "macRights", fn := fun _ => fun
  | [d1, d2, d3] => { results := [.lit (.bool false)], args := [d1, d2, d3] }
  | _ => none }
def MacRightsWrongFalsely : Prop := macRightsRow.holds Try.pinned (OpenSpec.ofChange macRightsWrong)

/-- 'tenementlaw04.MacBounds': WHATEVER THE INPUT: true; the input reads as it did. -/
def macBoundsSpec : ChangeSpec := { name := "macBounds", fn := fun _ => fun
  | [d1, d2, d3, d4] => { results := [.lit (.bool true)], args := [d1, d2, d3, d4] }
  | _ => none }
def macBoundsRow : OpenClaim := { program := "ytbdffcgbleiiaaa", sum := "4134da07014e06f61d22f4086068729fe66b988dff2fe84d70bc75d4cdfa4216", func := "tenement/tenementlaw04.MacBounds", spec := "macBounds", inPlace := ["internal/abi.NoEscape", "internal/bytealg.MakeNoZero"], apart := false }
def MacBoundsSaid : Prop := macBoundsRow.holds Try.pinned (OpenSpec.ofChange macBoundsSpec)

/-- ITS FALSE NEIGHBOUR: 'it returns false'. Refute it at one input. -/
def macBoundsWrong : ChangeSpec := { name := "macBounds", fn := fun _ => fun
  | [d1, d2, d3, d4] => { results := [.lit (.bool false)], args := [d1, d2, d3, d4] }
  | _ => none }
def MacBoundsWrongFalsely : Prop := macBoundsRow.holds Try.pinned (OpenSpec.ofChange macBoundsWrong)

/- THE SECOND FORM. 'bulk': how many values and letters a reading holds, each counted each time it is reached (what is shared counts as often as it is met; a slice's spare places count too). A statement '..UptoSaid' is the law's where the arguments, and the package variables that the reading takes, are together of bulk at most 1048576: NARROWER than '..Said'. Prove '..Said' where nothing that the law and all that it calls make is longer than what came in: it says more and counts as full. Else prove '..UptoSaid'. A law counts once. -/
mutual
def uptoBulk {H : Type} : DataW H → Nat
  | .lit (.string bytes) => bytes.length + 1
  | .lit _ => 1
  | .nil => 1
  | .ptr d => uptoBulk d + 1
  | .slice elems spare => uptoBulkAll elems + uptoBulkAll spare + 1
  | .agg parts => uptoBulkAll parts + 1
  | .iface _ d => uptoBulk d + 1
  | .map entries => uptoBulkEntries entries + 1
  | .held _ => 1
def uptoBulkAll {H : Type} : List (DataW H) → Nat
  | [] => 0
  | d :: r => uptoBulk d + uptoBulkAll r
def uptoBulkEntries {H : Type} : List (Lit × DataW H) → Nat
  | [] => 0
  | x :: r => uptoBulkEntry x + uptoBulkEntries r
def uptoBulkEntry {H : Type} : Lit × DataW H → Nat
  | (.string bytes, d) => bytes.length + uptoBulk d + 1
  | (_, d) => uptoBulk d + 1
 end
def uptoSmall : (H : Type) → List (DataW H) → Bool := fun _ ds => decide (uptoBulkAll ds ≤ 1048576)
def OpenSpec.upto (s : _root_.Go.ChangeSpec) : _root_.Go.OpenSpec := { _root_.Go.OpenSpec.ofChange s with cond := some uptoSmall }

/-- 'tenementlaw09.ChainPlays', WHERE WHAT IT READS IS OF BULK AT MOST 1048576: true; the input reads as it did. -/
def chainPlaysUptoRow : OpenClaim := { program := "ytbdffcgbleiiaaa", sum := "4134da07014e06f61d22f4086068729fe66b988dff2fe84d70bc75d4cdfa4216", func := "tenement/tenementlaw09.ChainPlays", spec := "chainPlays", inPlace := ["slices.overlaps[tenement/chain.Version[string]]"], unfollowed := true, recurses := true, apart := false, narrowed := true }
def ChainPlaysUptoSaid : Prop := chainPlaysUptoRow.holds Try.pinned (OpenSpec.upto chainPlaysSpec)

/-- 'tenementlaw09.ChainOrder', WHERE WHAT IT READS IS OF BULK AT MOST 1048576: true; the input reads as it did. -/
def chainOrderUptoRow : OpenClaim := { program := "ytbdffcgbleiiaaa", sum := "4134da07014e06f61d22f4086068729fe66b988dff2fe84d70bc75d4cdfa4216", func := "tenement/tenementlaw09.ChainOrder", spec := "chainOrder", inPlace := ["slices.overlaps[tenement/chain.Version[string]]", "slices.overlaps[tenement/chain.Version[int]]"], unfollowed := true, recurses := true, apart := false, narrowed := true }
def ChainOrderUptoSaid : Prop := chainOrderUptoRow.holds Try.pinned (OpenSpec.upto chainOrderSpec)

/-- 'tenementlaw09.ChainPrunes', WHERE WHAT IT READS IS OF BULK AT MOST 1048576: true; the input reads as it did. -/
def chainPrunesUptoRow : OpenClaim := { program := "ytbdffcgbleiiaaa", sum := "4134da07014e06f61d22f4086068729fe66b988dff2fe84d70bc75d4cdfa4216", func := "tenement/tenementlaw09.ChainPrunes", spec := "chainPrunes", inPlace := ["slices.overlaps[tenement/chain.Version[string]]", "slices.overlaps[tenement/chain.Version[int]]"], unfollowed := true, recurses := true, apart := false, narrowed := true }
def ChainPrunesUptoSaid : Prop := chainPrunesUptoRow.holds Try.pinned (OpenSpec.upto chainPrunesSpec)

/-- 'tenementlaw09.ChainAdds', WHERE WHAT IT READS IS OF BULK AT MOST 1048576: true; the input reads as it did. -/
def chainAddsUptoRow : OpenClaim := { program := "ytbdffcgbleiiaaa", sum := "4134da07014e06f61d22f4086068729fe66b988dff2fe84d70bc75d4cdfa4216", func := "tenement/tenementlaw09.ChainAdds", spec := "chainAdds", inPlace := ["slices.overlaps[tenement/chain.Version[string]]", "slices.overlaps[tenement/chain.Version[int]]"], unfollowed := true, recurses := true, apart := false, narrowed := true }
def ChainAddsUptoSaid : Prop := chainAddsUptoRow.holds Try.pinned (OpenSpec.upto chainAddsSpec)

/-- 'tenementlaw04.MacSums', WHERE WHAT IT READS IS OF BULK AT MOST 1048576: true; the input reads as it did. -/
def macSumsUptoRow : OpenClaim := { program := "ytbdffcgbleiiaaa", sum := "4134da07014e06f61d22f4086068729fe66b988dff2fe84d70bc75d4cdfa4216", func := "tenement/tenementlaw04.MacSums", spec := "macSums", inPlace := ["internal/abi.NoEscape", "internal/bytealg.MakeNoZero"], apart := false, narrowed := true }
def MacSumsUptoSaid : Prop := macSumsUptoRow.holds Try.pinned (OpenSpec.upto macSumsSpec)

/-- 'tenementlaw04.MacOpens', WHERE WHAT IT READS IS OF BULK AT MOST 1048576: true; the input reads as it did. -/
def macOpensUptoRow : OpenClaim := { program := "ytbdffcgbleiiaaa", sum := "4134da07014e06f61d22f4086068729fe66b988dff2fe84d70bc75d4cdfa4216", func := "tenement/tenementlaw04.MacOpens", spec := "macOpens", inPlace := ["internal/abi.NoEscape", "internal/bytealg.MakeNoZero"], apart := false, narrowed := true }
def MacOpensUptoSaid : Prop := macOpensUptoRow.holds Try.pinned (OpenSpec.upto macOpensSpec)

/-- 'tenementlaw04.MacRights', WHERE WHAT IT READS IS OF BULK AT MOST 1048576: true; the input reads as it did. -/
def macRightsUptoRow : OpenClaim := { program := "ytbdffcgbleiiaaa", sum := "4134da07014e06f61d22f4086068729fe66b988dff2fe84d70bc75d4cdfa4216", func := "tenement/tenementlaw04.MacRights", spec := "macRights", inPlace := ["internal/abi.NoEscape", "internal/bytealg.MakeNoZero"], apart := false, narrowed := true }
def MacRightsUptoSaid : Prop := macRightsUptoRow.holds Try.pinned (OpenSpec.upto macRightsSpec)

/-- 'tenementlaw04.MacBounds', WHERE WHAT IT READS IS OF BULK AT MOST 1048576: true; the input reads as it did. -/
def macBoundsUptoRow : OpenClaim := { program := "ytbdffcgbleiiaaa", sum := "4134da07014e06f61d22f4086068729fe66b988dff2fe84d70bc75d4cdfa4216", func := "tenement/tenementlaw04.MacBounds", spec := "macBounds", inPlace := ["internal/abi.NoEscape", "internal/bytealg.MakeNoZero"], apart := false, narrowed := true }
def MacBoundsUptoSaid : Prop := macBoundsUptoRow.holds Try.pinned (OpenSpec.upto macBoundsSpec)

end Rows
end Go.Proofs.Ytbdffcgbleiiaaa
