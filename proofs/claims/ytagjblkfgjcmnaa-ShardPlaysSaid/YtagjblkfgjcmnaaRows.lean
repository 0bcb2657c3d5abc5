/-
  No cell of these rows narrows 'for every input' (looked for: loops, veiled, ifaces, maps, wideKeys, modest, calm, conditions, laid).
  DERIVED. THE GIVEN ROWS OF THIS SEAT. 5 by the template 'for every input the law returns true; each argument reads behind the call as it read before'; 0 by the template 'total and deterministic' (their statements: YtagjblkfgjcmnaaTotals.lean).
  GIVEN WITH THE SEED: the statements are not yours to turn. If you find one false, say at which input.
  Laid BY PROGRAM, IN A SANDBOX (cutbox-rows.mjs): the forced cells as the released guide's own fill.sh prints them over the translation db9bc12a976832a3… (all of the seat's roots in one cut). By AI agents, Wed Nov 11 2026. No macro, syntax, notation, axiom, sorry.
-/
import Derived.Test.YtagjblkfgjcmnaaChecked
import GoSem.Claim
import GoSem.ClaimJoined
import GoSem.ClaimMapViews
import Derived.JoinedTies
import Derived.KernelRfl
namespace Go.Proofs.Ytagjblkfgjcmnaa
/- THE CELL 'sum', in the pinned program and in every row, IS THE sha256 OF THE DUMP (.gsa) THAT YtagjblkfgjcmnaaProg.lean LOADS. Nothing in Lean hashes anything: it is a label: what it is worth is what the hold of that sum in a sandbox is worth. -/
noncomputable def Try.pinned : Pinned := { name := "ytagjblkfgjcmnaa", sum := "db9bc12a976832a3541987d1eb9a38912562d0e314033eea8df2bd75512e26a0", checked := Try.checked }
namespace Rows
def none {H : Type} : Left H := { results := [], args := [] }

/-- 'tenementlaw10.ShardPlays': WHATEVER THE INPUT: true; the input reads as it did. -/
def shardPlaysSpec : ChangeSpec := { name := "shardPlays", fn := fun _ => fun
  | [d1, d2, d3] => { results := [.lit (.bool true)], args := [d1, d2, d3] }
  | _ => none }
def shardPlaysRow : OpenClaim := { program := "ytagjblkfgjcmnaa", sum := "db9bc12a976832a3541987d1eb9a38912562d0e314033eea8df2bd75512e26a0", func := "tenement/tenementlaw10.ShardPlays", spec := "shardPlays", inPlace := ["slices.overlaps[tenement/chain.Version[tenement/item.Write]]"], unfollowed := true, recurses := true, plainKeys := false, apart := false }
def ShardPlaysSaid : Prop := shardPlaysRow.holds Try.pinned (OpenSpec.ofChange shardPlaysSpec)

/-- ITS FALSE NEIGHBOUR: 'it returns false'. Refute it at one input. -/
def shardPlaysWrong : ChangeSpec := { name := "shardPlays", fn := fun _ => fun
  | [d1, d2, d3] => { results := [.lit (.bool false)], args := [d1, d2, d3] }
  | _ => none }
def ShardPlaysWrongFalsely : Prop := shardPlaysRow.holds Try.pinned (OpenSpec.ofChange shardPlaysWrong)

/-- 'tenementlaw10.ShardWaits': WHATEVER THE INPUT: true; the input reads as it did. -/
def shardWaitsSpec : ChangeSpec := { name := "shardWaits", fn := fun _ => fun
  | [d1, d2, d3] => { results := [.lit (.bool true)], args := [d1, d2, d3] }
  | _ => none }
def shardWaitsRow : OpenClaim := { program := "ytagjblkfgjcmnaa", sum := "db9bc12a976832a3541987d1eb9a38912562d0e314033eea8df2bd75512e26a0", func := "tenement/tenementlaw10.ShardWaits", spec := "shardWaits", inPlace := ["slices.overlaps[tenement/chain.Version[tenement/item.Write]]"], unfollowed := true, recurses := true, plainKeys := false, apart := false }
def ShardWaitsSaid : Prop := shardWaitsRow.holds Try.pinned (OpenSpec.ofChange shardWaitsSpec)

/-- ITS FALSE NEIGHBOUR: 'it returns false'. Refute it at one input. -/
def shardWaitsWrong : ChangeSpec := { name := "shardWaits", fn := fun _ => fun
  | [d1, d2, d3] => { results := [.lit (.bool false)], args := [d1, d2, d3] }
  | _ => none }
def ShardWaitsWrongFalsely : Prop := shardWaitsRow.holds Try.pinned (OpenSpec.ofChange shardWaitsWrong)

/-- 'tenementlaw10.ShardAlike': WHATEVER THE INPUT: true; the input reads as it did. -/
def shardAlikeSpec : ChangeSpec := { name := "shardAlike", fn := fun _ => fun
  | [d1, d2, d3] => { results := [.lit (.bool true)], args := [d1, d2, d3] }
  | _ => none }
def shardAlikeRow : OpenClaim := { program := "ytagjblkfgjcmnaa", sum := "db9bc12a976832a3541987d1eb9a38912562d0e314033eea8df2bd75512e26a0", func := "tenement/tenementlaw10.ShardAlike", spec := "shardAlike", inPlace := ["slices.overlaps[tenement/chain.Version[tenement/item.Write]]"], unfollowed := true, recurses := true, plainKeys := false, apart := false }
def ShardAlikeSaid : Prop := shardAlikeRow.holds Try.pinned (OpenSpec.ofChange shardAlikeSpec)

/-- ITS FALSE NEIGHBOUR: 'it returns false'. Refute it at one input. -/
def shardAlikeWrong : ChangeSpec := { name := "shardAlike", fn := fun _ => fun
  | [d1, d2, d3] => { results := [.lit (.bool false)], args := [d1, d2, d3] }
  | _ => none }
def ShardAlikeWrongFalsely : Prop := shardAlikeRow.holds Try.pinned (OpenSpec.ofChange shardAlikeWrong)

/-- 'tenementlaw10.ShardPrunes': WHATEVER THE INPUT: true; the input reads as it did. -/
def shardPrunesSpec : ChangeSpec := { name := "shardPrunes", fn := fun _ => fun
  | [d1, d2, d3, d4] => { results := [.lit (.bool true)], args := [d1, d2, d3, d4] }
  | _ => none }
def shardPrunesRow : OpenClaim := { program := "ytagjblkfgjcmnaa", sum := "db9bc12a976832a3541987d1eb9a38912562d0e314033eea8df2bd75512e26a0", func := "tenement/tenementlaw10.ShardPrunes", spec := "shardPrunes", inPlace := ["slices.overlaps[tenement/chain.Version[tenement/item.Write]]"], unfollowed := true, recurses := true, plainKeys := false, apart := false }
def ShardPrunesSaid : Prop := shardPrunesRow.holds Try.pinned (OpenSpec.ofChange shardPrunesSpec)

/-- ITS FALSE NEIGHBOUR: 'it returns false'. Refute it at one input. -/
def shardPrunesWrong : ChangeSpec := { name := "shardPrunes", fn := fun _ => fun
  | [d1, d2, d3, d4] => { results := [.lit (.bool false)], args := [d1, d2, d3, d4] }
  | _ => none }
def ShardPrunesWrongFalsely : Prop := shardPrunesRow.holds Try.pinned (OpenSpec.ofChange shardPrunesWrong)

/-- 'tenementlaw10.ShardApplied': WHATEVER THE INPUT: true; the input reads as it did. -/
def shardAppliedSpec : ChangeSpec := { name := "shardApplied", fn := fun _ => fun
  | [d] => { results := [.lit (.bool true)], args := [d] }
  | _ => none }
def shardAppliedRow : OpenClaim := { program := "ytagjblkfgjcmnaa", sum := "db9bc12a976832a3541987d1eb9a38912562d0e314033eea8df2bd75512e26a0", func := "tenement/tenementlaw10.ShardApplied", spec := "shardApplied", inPlace := ["slices.overlaps[tenement/chain.Version[tenement/item.Write]]"], unfollowed := true, recurses := true, plainKeys := false, apart := false }
def ShardAppliedSaid : Prop := shardAppliedRow.holds Try.pinned (OpenSpec.ofChange shardAppliedSpec)

/-- ITS FALSE NEIGHBOUR: 'it returns false'. Refute it at one input. -/
def shardAppliedWrong : ChangeSpec := { name := "shardApplied", fn := fun _ => fun
  | [d] => { results := [.lit (.bool false)], args := [d] }
  | _ => none }
def ShardAppliedWrongFalsely : Prop := shardAppliedRow.holds Try.pinned (OpenSpec.ofChange shardAppliedWrong)

/- THE SECOND FORM. 'bulk': how many values and letters a reading holds, each counted each time it is reached (what is shared counts as often as it is met; a slice's spare places count too). A statement '..UptoSaid' is the law's where the arguments, and the package variables that the reading takes, are together of bulk at most 1048576: NARROWER than '..Said'. Prove '..Said' where nothing that the law and all that it calls make is longer than what came in: it says more and counts as full. Else prove '..UptoSaid'. A law counts once. -/
mutual
def uptoBulk {H : Type} : DataW H → Nat
  | .lit (.string bytes) => bytes.length + 1
  | .lit _ => 1
  | .nil => 1
  | .ptr d => uptoBulk d + 1
  | .slice elems spare => uptoBulkAll elems + uptoBulkAll spare + 1
  | .agg parts => uptoBulkAll parts + 1
  | .iface _ d => uptoBulk d + 1
  | .map entries => uptoBulkEntries entries + 1
  | .held _ => 1
def uptoBulkAll {H : Type} : List (DataW H) → Nat
  | [] => 0
  | d :: r => uptoBulk d + uptoBulkAll r
def uptoBulkEntries {H : Type} : List (Lit × DataW H) → Nat
  | [] => 0
  | x :: r => uptoBulkEntry x + uptoBulkEntries r
def uptoBulkEntry {H : Type} : Lit × DataW H → Nat
  | (.string bytes, d) => bytes.length + uptoBulk d + 1
  | (_, d) => uptoBulk d + 1
 end
def uptoSmall : (H : Type) → List (DataW H) → Bool := fun _ ds => decide (uptoBulkAll ds ≤ 1048576)
def OpenSpec.upto (s : _root_.Go.ChangeSpec) : _root_.Go.OpenSpec := { _root_.Go.OpenSpec.ofChange s with cond := some uptoSmall }

/-- 'tenementlaw10.ShardPlays', WHERE WHAT IT READS IS OF BULK AT MOST 1048576: true; the input reads as it did. -/
def shardPlaysUptoRow : OpenClaim := { program := "ytagjblkfgjcmnaa", sum := "db9bc12a976832a3541987d1eb9a38912562d0e314033eea8df2bd75512e26a0", func := "tenement/tenementlaw10.ShardPlays", spec := "shardPlays", inPlace := ["slices.overlaps[tenement/chain.Version[tenement/item.Write]]"], unfollowed := true, recurses := true, plainKeys := false, apart := false, narrowed := true }
def ShardPlaysUptoSaid : Prop := shardPlaysUptoRow.holds Try.pinned (OpenSpec.upto shardPlaysSpec)

/-- 'tenementlaw10.ShardWaits', WHERE WHAT IT READS IS OF BULK AT MOST 1048576: true; the input reads as it did. -/
def shardWaitsUptoRow : OpenClaim := { program := "ytagjblkfgjcmnaa", sum := "db9bc12a976832a3541987d1eb9a38912562d0e314033eea8df2bd75512e26a0", func := "tenement/tenementlaw10.ShardWaits", spec := "shardWaits", inPlace := ["slices.overlaps[tenement/chain.Version[tenement/item.Write]]"], unfollowed := true, recurses := true, plainKeys := false, apart := false, narrowed := true }
def ShardWaitsUptoSaid : Prop := shardWaitsUptoRow.holds Try.pinned (OpenSpec.upto shardWaitsSpec)

/-- 'tenementlaw10.ShardAlike', WHERE WHAT IT READS IS OF BULK AT MOST 1048576: true; the input reads as it did. -/
def shardAlikeUptoRow : OpenClaim := { program := "ytagjblkfgjcmnaa", sum := "db9bc12a976832a3541987d1eb9a38912562d0e314033eea8df2bd75512e26a0", func := "tenement/tenementlaw10.ShardAlike", spec := "shardAlike", inPlace := ["slices.overlaps[tenement/chain.Version[tenement/item.Write]]"], unfollowed := true, recurses := true, plainKeys := false, apart := false, narrowed := true }
def ShardAlikeUptoSaid : Prop := shardAlikeUptoRow.holds Try.pinned (OpenSpec.upto shardAlikeSpec)

/-- 'tenementlaw10.ShardPrunes', WHERE WHAT IT READS IS OF BULK AT MOST 1048576: true; the input reads as it did. -/
def shardPrunesUptoRow : OpenClaim := { program := "ytagjblkfgjcmnaa", sum := "db9bc12a976832a3541987d1eb9a38912562d0e314033eea8df2bd75512e26a0", func := "tenement/tenementlaw10.ShardPrunes", spec := "shardPrunes", inPlace := ["slices.overlaps[tenement/chain.Version[tenement/item.Write]]"], unfollowed := true, recurses := true, plainKeys := false, apart := false, narrowed := true }
def ShardPrunesUptoSaid : Prop := shardPrunesUptoRow.holds Try.pinned (OpenSpec.upto shardPrunesSpec)

/-- 'tenementlaw10.ShardApplied', WHERE WHAT IT READS IS OF BULK AT MOST 1048576: true; the input reads as it did. -/
def shardAppliedUptoRow : OpenClaim := { program := "ytagjblkfgjcmnaa", sum := "db9bc12a976832a3541987d1eb9a38912562d0e314033eea8df2bd75512e26a0", func := "tenement/tenementlaw10.ShardApplied", spec := "shardApplied", inPlace := ["slices.overlaps[tenement/chain.Version[tenement/item.Write]]"], unfollowed := true, recurses := true, plainKeys := false, apart := false, narrowed := true }
def ShardAppliedUptoSaid : Prop := shardAppliedUptoRow.holds Try.pinned (OpenSpec.upto shardAppliedSpec)

end Rows
end Go.Proofs.Ytagjblkfgjcmnaa
