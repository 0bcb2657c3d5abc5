/-
  No cell of these rows narrows 'for every input' (looked for: loops, veiled, ifaces, maps, wideKeys, modest, calm, conditions, laid).
  DERIVED. THE GIVEN ROWS OF THIS SEAT. 12 by the template 'for every input the law returns true; each argument reads behind the call as it read before'; 0 by the template 'total and deterministic' (their statements: YtfokingbglkmjaaTotals.lean).
  GIVEN WITH THE SEED: the statements are not yours to turn. If you find one false, say at which input.
  Laid BY PROGRAM, IN A SANDBOX (cutbox-rows.mjs): the forced cells as the released guide's own fill.sh prints them over the translation 1e409dedbe2a55db… (all of the seat's roots in one cut). By AI agents, Wed Nov 11 2026. No macro, syntax, notation, axiom, sorry.
-/
import Derived.Test.YtfokingbglkmjaaChecked
import GoSem.Claim
import GoSem.ClaimJoined
import GoSem.ClaimMapViews
import Derived.JoinedTies
import Derived.KernelRfl
namespace Go.Proofs.Ytfokingbglkmjaa
/- THE CELL 'sum', in the pinned program and in every row, IS THE sha256 OF THE DUMP (.gsa) THAT YtfokingbglkmjaaProg.lean LOADS. Nothing in Lean hashes anything: it is a label: what it is worth is what the hold of that sum in a sandbox is worth. -/
noncomputable def Try.pinned : Pinned := { name := "ytfokingbglkmjaa", sum := "1e409dedbe2a55dbf4e0933c2d8043c3a3b24ff41403a4b2f5342c67e0330cf2", checked := Try.checked }
namespace Rows
def none {H : Type} : Left H := { results := [], args := [] }

/-- 'tenementlaw14.SessPlays': WHATEVER THE INPUT: true; the input reads as it did. -/
def sessPlaysSpec : ChangeSpec := { name := "sessPlays", fn := fun _ => fun
  | [d1, d2] => { results := [.lit (.bool true)], args := [d1, d2] }
  | _ => none }
def sessPlaysRow : OpenClaim := { program := "ytfokingbglkmjaa", sum := "1e409dedbe2a55dbf4e0933c2d8043c3a3b24ff41403a4b2f5342c67e0330cf2", func := "tenement/tenementlaw14.SessPlays", spec := "sessPlays", unfollowed := true, recurses := true, apart := false }
def SessPlaysSaid : Prop := sessPlaysRow.holds Try.pinned (OpenSpec.ofChange sessPlaysSpec)

/-- ITS FALSE NEIGHBOUR: 'it returns false'. Refute it at one input. -/
def sessPlaysWrong : ChangeSpec := { name := "sessPlays", fn := fun _ => fun
  | [d1, d2] => { results := [.lit (.bool false)], args := [d1, d2] }
  | _ => none }
def SessPlaysWrongFalsely : Prop := sessPlaysRow.holds Try.pinned (OpenSpec.ofChange sessPlaysWrong)

/-- 'tenementlaw14.SessOwn': WHATEVER THE INPUT: true; the input reads as it did. -/
def sessOwnSpec : ChangeSpec := { name := "sessOwn", fn := fun _ => fun
  | [d1, d2, d3, d4] => { results := [.lit (.bool true)], args := [d1, d2, d3, d4] }
  | _ => none }
def sessOwnRow : OpenClaim := { program := "ytfokingbglkmjaa", sum := "1e409dedbe2a55dbf4e0933c2d8043c3a3b24ff41403a4b2f5342c67e0330cf2", func := "tenement/tenementlaw14.SessOwn", spec := "sessOwn", unfollowed := true, recurses := true, apart := false }
def SessOwnSaid : Prop := sessOwnRow.holds Try.pinned (OpenSpec.ofChange sessOwnSpec)

/-- ITS FALSE NEIGHBOUR: 'it returns false'. Refute it at one input. -/
def sessOwnWrong : ChangeSpec := { name := "sessOwn", fn := fun _ => fun
  | [d1, d2, d3, d4] => { results := [.lit (.bool false)], args := [d1, d2, d3, d4] }
  | _ => none }
def SessOwnWrongFalsely : Prop := sessOwnRow.holds Try.pinned (OpenSpec.ofChange sessOwnWrong)

/-- 'tenementlaw14.SessHorizon': WHATEVER THE INPUT: true; the input reads as it did. -/
def sessHorizonSpec : ChangeSpec := { name := "sessHorizon", fn := fun _ => fun
  | [d1, d2, d3] => { results := [.lit (.bool true)], args := [d1, d2, d3] }
  | _ => none }
def sessHorizonRow : OpenClaim := { program := "ytfokingbglkmjaa", sum := "1e409dedbe2a55dbf4e0933c2d8043c3a3b24ff41403a4b2f5342c67e0330cf2", func := "tenement/tenementlaw14.SessHorizon", spec := "sessHorizon", unfollowed := true, recurses := true, apart := false }
def SessHorizonSaid : Prop := sessHorizonRow.holds Try.pinned (OpenSpec.ofChange sessHorizonSpec)

/-- ITS FALSE NEIGHBOUR: 'it returns false'. Refute it at one input. -/
def sessHorizonWrong : ChangeSpec := { name := "sessHorizon", fn := fun _ => fun
  | [d1, d2, d3] => { results := [.lit (.bool false)], args := [d1, d2, d3] }
  | _ => none }
def SessHorizonWrongFalsely : Prop := sessHorizonRow.holds Try.pinned (OpenSpec.ofChange sessHorizonWrong)

/-- 'tenementlaw14.SessSees': WHATEVER THE INPUT: true; the input reads as it did. -/
def sessSeesSpec : ChangeSpec := { name := "sessSees", fn := fun _ => fun
  | [d1, d2] => { results := [.lit (.bool true)], args := [d1, d2] }
  | _ => none }
def sessSeesRow : OpenClaim := { program := "ytfokingbglkmjaa", sum := "1e409dedbe2a55dbf4e0933c2d8043c3a3b24ff41403a4b2f5342c67e0330cf2", func := "tenement/tenementlaw14.SessSees", spec := "sessSees", unfollowed := true, recurses := true, apart := false }
def SessSeesSaid : Prop := sessSeesRow.holds Try.pinned (OpenSpec.ofChange sessSeesSpec)

/-- ITS FALSE NEIGHBOUR: 'it returns false'. Refute it at one input. -/
def sessSeesWrong : ChangeSpec := { name := "sessSees", fn := fun _ => fun
  | [d1, d2] => { results := [.lit (.bool false)], args := [d1, d2] }
  | _ => none }
def SessSeesWrongFalsely : Prop := sessSeesRow.holds Try.pinned (OpenSpec.ofChange sessSeesWrong)

/-- 'tenementlaw14.SessMany': WHATEVER THE INPUT: true; the input reads as it did. -/
def sessManySpec : ChangeSpec := { name := "sessMany", fn := fun _ => fun
  | [d1, d2] => { results := [.lit (.bool true)], args := [d1, d2] }
  | _ => none }
def sessManyRow : OpenClaim := { program := "ytfokingbglkmjaa", sum := "1e409dedbe2a55dbf4e0933c2d8043c3a3b24ff41403a4b2f5342c67e0330cf2", func := "tenement/tenementlaw14.SessMany", spec := "sessMany", unfollowed := true, recurses := true, apart := false }
def SessManySaid : Prop := sessManyRow.holds Try.pinned (OpenSpec.ofChange sessManySpec)

/-- ITS FALSE NEIGHBOUR: 'it returns false'. Refute it at one input. -/
def sessManyWrong : ChangeSpec := { name := "sessMany", fn := fun _ => fun
  | [d1, d2] => { results := [.lit (.bool false)], args := [d1, d2] }
  | _ => none }
def SessManyWrongFalsely : Prop := sessManyRow.holds Try.pinned (OpenSpec.ofChange sessManyWrong)

/-- 'tenementlaw14.SessReplaces': WHATEVER THE INPUT: true; the input reads as it did. -/
def sessReplacesSpec : ChangeSpec := { name := "sessReplaces", fn := fun _ => fun
  | [d1, d2, d3] => { results := [.lit (.bool true)], args := [d1, d2, d3] }
  | _ => none }
def sessReplacesRow : OpenClaim := { program := "ytfokingbglkmjaa", sum := "1e409dedbe2a55dbf4e0933c2d8043c3a3b24ff41403a4b2f5342c67e0330cf2", func := "tenement/tenementlaw14.SessReplaces", spec := "sessReplaces", unfollowed := true, recurses := true, apart := false }
def SessReplacesSaid : Prop := sessReplacesRow.holds Try.pinned (OpenSpec.ofChange sessReplacesSpec)

/-- ITS FALSE NEIGHBOUR: 'it returns false'. Refute it at one input. -/
def sessReplacesWrong : ChangeSpec := { name := "sessReplaces", fn := fun _ => fun
  | [d1, d2, d3] => { results := [.lit (.bool false)], args := [d1, d2, d3] }
  | _ => none }
def SessReplacesWrongFalsely : Prop := sessReplacesRow.holds Try.pinned (OpenSpec.ofChange sessReplacesWrong)

/-- 'tenementlaw11.DiskKeeps': WHATEVER THE INPUT: true; the input reads as it did. -/
def diskKeepsSpec : ChangeSpec := { name := "diskKeeps", fn := fun _ => fun
  | [d1, d2, d3] => { results := [.lit (.bool true)], args := [d1, d2, d3] }
  | _ => none }
def diskKeepsRow : OpenClaim := { program := "ytfokingbglkmjaa", sum := "1e409dedbe2a55dbf4e0933c2d8043c3a3b24ff41403a4b2f5342c67e0330cf2", func := "tenement/tenementlaw11.DiskKeeps", spec := "diskKeeps", inPlace := ["internal/abi.NoEscape", "internal/bytealg.MakeNoZero"], apart := false }
def DiskKeepsSaid : Prop := diskKeepsRow.holds Try.pinned (OpenSpec.ofChange diskKeepsSpec)

/-- ITS FALSE NEIGHBOUR: 'it returns false'. Refute it at one input. -/
def diskKeepsWrong : ChangeSpec := { name := "diskKeeps", fn := fun _ => fun
  | [d1, d2, d3] => { results := [.lit (.bool false)], args := [d1, d2, d3] }
  | _ => none }
def DiskKeepsWrongFalsely : Prop := diskKeepsRow.holds Try.pinned (OpenSpec.ofChange diskKeepsWrong)

/-- 'tenementlaw11.DiskFull': WHATEVER THE INPUT: true; the input reads as it did. -/
def diskFullSpec : ChangeSpec := { name := "diskFull", fn := fun _ => fun
  | [d1, d2] => { results := [.lit (.bool true)], args := [d1, d2] }
  | _ => none }
def diskFullRow : OpenClaim := { program := "ytfokingbglkmjaa", sum := "1e409dedbe2a55dbf4e0933c2d8043c3a3b24ff41403a4b2f5342c67e0330cf2", func := "tenement/tenementlaw11.DiskFull", spec := "diskFull", inPlace := ["internal/abi.NoEscape", "internal/bytealg.MakeNoZero"], apart := false }
def DiskFullSaid : Prop := diskFullRow.holds Try.pinned (OpenSpec.ofChange diskFullSpec)

/-- ITS FALSE NEIGHBOUR: 'it returns false'. Refute it at one input. -/
def diskFullWrong : ChangeSpec := { name := "diskFull", fn := fun _ => fun
  | [d1, d2] => { results := [.lit (.bool false)], args := [d1, d2] }
  | _ => none }
def DiskFullWrongFalsely : Prop := diskFullRow.holds Try.pinned (OpenSpec.ofChange diskFullWrong)

/-- 'tenementlaw11.DiskCuts': WHATEVER THE INPUT: true; the input reads as it did. -/
def diskCutsSpec : ChangeSpec := { name := "diskCuts", fn := fun _ => fun
  | [d1, d2, d3] => { results := [.lit (.bool true)], args := [d1, d2, d3] }
  | _ => none }
def diskCutsRow : OpenClaim := { program := "ytfokingbglkmjaa", sum := "1e409dedbe2a55dbf4e0933c2d8043c3a3b24ff41403a4b2f5342c67e0330cf2", func := "tenement/tenementlaw11.DiskCuts", spec := "diskCuts", inPlace := ["internal/abi.NoEscape", "internal/bytealg.MakeNoZero"], apart := false }
def DiskCutsSaid : Prop := diskCutsRow.holds Try.pinned (OpenSpec.ofChange diskCutsSpec)

/-- ITS FALSE NEIGHBOUR: 'it returns false'. Refute it at one input. -/
def diskCutsWrong : ChangeSpec := { name := "diskCuts", fn := fun _ => fun
  | [d1, d2, d3] => { results := [.lit (.bool false)], args := [d1, d2, d3] }
  | _ => none }
def DiskCutsWrongFalsely : Prop := diskCutsRow.holds Try.pinned (OpenSpec.ofChange diskCutsWrong)

/-- 'tenementlaw09.ChainPlays': WHATEVER THE INPUT: true; the input reads as it did. -/
def chainPlaysSpec : ChangeSpec := { name := "chainPlays", fn := fun _ => fun
  | [d] => { results := [.lit (.bool true)], args := [d] }
  | _ => none }
def chainPlaysRow : OpenClaim := { program := "ytfokingbglkmjaa", sum := "1e409dedbe2a55dbf4e0933c2d8043c3a3b24ff41403a4b2f5342c67e0330cf2", func := "tenement/tenementlaw09.ChainPlays", spec := "chainPlays", inPlace := ["slices.overlaps[tenement/chain.Version[string]]"], unfollowed := true, recurses := true, apart := false }
def ChainPlaysSaid : Prop := chainPlaysRow.holds Try.pinned (OpenSpec.ofChange chainPlaysSpec)

/-- ITS FALSE NEIGHBOUR: 'it returns false'. Refute it at one input. -/
def chainPlaysWrong : ChangeSpec := { name := "chainPlays", fn := fun _ => fun
  | [d] => { results := [.lit (.bool false)], args := [d] }
  | _ => none }
def ChainPlaysWrongFalsely : Prop := chainPlaysRow.holds Try.pinned (OpenSpec.ofChange chainPlaysWrong)

/-- 'tenementlaw09.ChainOrder': WHATEVER THE INPUT: true; the input reads as it did. -/
def chainOrderSpec : ChangeSpec := { name := "chainOrder", fn := fun _ => fun
  | [d1, d2] => { results := [.lit (.bool true)], args := [d1, d2] }
  | _ => none }
def chainOrderRow : OpenClaim := { program := "ytfokingbglkmjaa", sum := "1e409dedbe2a55dbf4e0933c2d8043c3a3b24ff41403a4b2f5342c67e0330cf2", func := "tenement/tenementlaw09.ChainOrder", spec := "chainOrder", inPlace := ["slices.overlaps[tenement/chain.Version[string]]", "slices.overlaps[tenement/chain.Version[int]]"], unfollowed := true, recurses := true, apart := false }
def ChainOrderSaid : Prop := chainOrderRow.holds Try.pinned (OpenSpec.ofChange chainOrderSpec)

/-- ITS FALSE NEIGHBOUR: 'it returns false'. Refute it at one input. -/
def chainOrderWrong : ChangeSpec := { name := "chainOrder", fn := fun _ => fun
  | [d1, d2] => { results := [.lit (.bool false)], args := [d1, d2] }
  | _ => none }
def ChainOrderWrongFalsely : Prop := chainOrderRow.holds Try.pinned (OpenSpec.ofChange chainOrderWrong)

/-- 'tenementlaw09.ChainPrunes': WHATEVER THE INPUT: true; the input reads as it did. -/
def chainPrunesSpec : ChangeSpec := { name := "chainPrunes", fn := fun _ => fun
  | [d1, d2, d3] => { results := [.lit (.bool true)], args := [d1, d2, d3] }
  | _ => none }
def chainPrunesRow : OpenClaim := { program := "ytfokingbglkmjaa", sum := "1e409dedbe2a55dbf4e0933c2d8043c3a3b24ff41403a4b2f5342c67e0330cf2", func := "tenement/tenementlaw09.ChainPrunes", spec := "chainPrunes", inPlace := ["slices.overlaps[tenement/chain.Version[string]]", "slices.overlaps[tenement/chain.Version[int]]"], unfollowed := true, recurses := true, apart := false }
def ChainPrunesSaid : Prop := chainPrunesRow.holds Try.pinned (OpenSpec.ofChange chainPrunesSpec)

/-- ITS FALSE NEIGHBOUR: 'it returns false'. Refute it at one input. -/
def chainPrunesWrong : ChangeSpec := { name := "chainPrunes", fn := fun _ => fun
  | [d1, d2, d3] => { results := [.lit (.bool false)], args := [d1, d2, d3] }
  | _ => none }
def ChainPrunesWrongFalsely : Prop := chainPrunesRow.holds Try.pinned (OpenSpec.ofChange chainPrunesWrong)

/- THE SECOND FORM. 'bulk': how many values and letters a reading holds, each counted each time it is reached (what is shared counts as often as it is met; a slice's spare places count too). A statement '..UptoSaid' is the law's where the arguments, and the package variables that the reading takes, are together of bulk at most 1048576: NARROWER than '..Said'. Prove '..Said' where nothing that the law and all that it calls make is longer than what came in: it says more and counts as full. Else prove '..UptoSaid'. A law counts once. -/
mutual
def uptoBulk {H : Type} : DataW H → Nat
  | .lit (.string bytes) => bytes.length + 1
  | .lit _ => 1
  | .nil => 1
  | .ptr d => uptoBulk d + 1
  | .slice elems spare => uptoBulkAll elems + uptoBulkAll spare + 1
  | .agg parts => uptoBulkAll parts + 1
  | .iface _ d => uptoBulk d + 1
  | .map entries => uptoBulkEntries entries + 1
  | .held _ => 1
def uptoBulkAll {H : Type} : List (DataW H) → Nat
  | [] => 0
  | d :: r => uptoBulk d + uptoBulkAll r
def uptoBulkEntries {H : Type} : List (Lit × DataW H) → Nat
  | [] => 0
  | x :: r => uptoBulkEntry x + uptoBulkEntries r
def uptoBulkEntry {H : Type} : Lit × DataW H → Nat
  | (.string bytes, d) => bytes.length + uptoBulk d + 1
  | (_, d) => uptoBulk d + 1
 end
def uptoSmall : (H : Type) → List (DataW H) → Bool := fun _ ds => decide (uptoBulkAll ds ≤ 1048576)
def OpenSpec.upto (s : _root_.Go.ChangeSpec) : _root_.Go.OpenSpec := { _root_.Go.OpenSpec.ofChange s with cond := some uptoSmall }

/-- 'tenementlaw14.SessPlays', WHERE WHAT IT READS IS OF BULK AT MOST 1048576: true; the input reads as it did. -/
def sessPlaysUptoRow : OpenClaim := { program := "ytfokingbglkmjaa", sum := "1e409dedbe2a55dbf4e0933c2d8043c3a3b24ff41403a4b2f5342c67e0330cf2", func := "tenement/tenementlaw14.SessPlays", spec := "sessPlays", unfollowed := true, recurses := true, apart := false, narrowed := true }
def SessPlaysUptoSaid : Prop := sessPlaysUptoRow.holds Try.pinned (OpenSpec.upto sessPlaysSpec)

/-- 'tenementlaw14.SessOwn', WHERE WHAT IT READS IS OF BULK AT MOST 1048576: true; the input reads as it did. -/
def sessOwnUptoRow : OpenClaim := { program := "ytfokingbglkmjaa", sum := "1e409dedbe2a55dbf4e0933c2d8043c3a3b24ff41403a4b2f5342c67e0330cf2", func := "tenement/tenementlaw14.SessOwn", spec := "sessOwn", unfollowed := true, recurses := true, apart := false, narrowed := true }
def SessOwnUptoSaid : Prop := sessOwnUptoRow.holds Try.pinned (OpenSpec.upto sessOwnSpec)

/-- 'tenementlaw14.SessHorizon', WHERE WHAT IT READS IS OF BULK AT MOST 1048576: true; the input reads as it did. -/
def sessHorizonUptoRow : OpenClaim := { program := "ytfokingbglkmjaa", sum := "1e409dedbe2a55dbf4e0933c2d8043c3a3b24ff41403a4b2f5342c67e0330cf2", func := "tenement/tenementlaw14.SessHorizon", spec := "sessHorizon", unfollowed := true, recurses := true, apart := false, narrowed := true }
def SessHorizonUptoSaid : Prop := sessHorizonUptoRow.holds Try.pinned (OpenSpec.upto sessHorizonSpec)

/-- 'tenementlaw14.SessSees', WHERE WHAT IT READS IS OF BULK AT MOST 1048576: true; the input reads as it did. -/
def sessSeesUptoRow : OpenClaim := { program := "ytfokingbglkmjaa", sum := "1e409dedbe2a55dbf4e0933c2d8043c3a3b24ff41403a4b2f5342c67e0330cf2", func := "tenement/tenementlaw14.SessSees", spec := "sessSees", unfollowed := true, recurses := true, apart := false, narrowed := true }
def SessSeesUptoSaid : Prop := sessSeesUptoRow.holds Try.pinned (OpenSpec.upto sessSeesSpec)

/-- 'tenementlaw14.SessMany', WHERE WHAT IT READS IS OF BULK AT MOST 1048576: true; the input reads as it did. -/
def sessManyUptoRow : OpenClaim := { program := "ytfokingbglkmjaa", sum := "1e409dedbe2a55dbf4e0933c2d8043c3a3b24ff41403a4b2f5342c67e0330cf2", func := "tenement/tenementlaw14.SessMany", spec := "sessMany", unfollowed := true, recurses := true, apart := false, narrowed := true }
def SessManyUptoSaid : Prop := sessManyUptoRow.holds Try.pinned (OpenSpec.upto sessManySpec)

/-- 'tenementlaw14.SessReplaces', WHERE WHAT IT READS IS OF BULK AT MOST 1048576: true; the input reads as it did. -/
def sessReplacesUptoRow : OpenClaim := { program := "ytfokingbglkmjaa", sum := "1e409dedbe2a55dbf4e0933c2d8043c3a3b24ff41403a4b2f5342c67e0330cf2", func := "tenement/tenementlaw14.SessReplaces", spec := "sessReplaces", unfollowed := true, recurses := true, apart := false, narrowed := true }
def SessReplacesUptoSaid : Prop := sessReplacesUptoRow.holds Try.pinned (OpenSpec.upto sessReplacesSpec)

/-- 'tenementlaw11.DiskKeeps', WHERE WHAT IT READS IS OF BULK AT MOST 1048576: true; the input reads as it did. -/
def diskKeepsUptoRow : OpenClaim := { program := "ytfokingbglkmjaa", sum := "1e409dedbe2a55dbf4e0933c2d8043c3a3b24ff41403a4b2f5342c67e0330cf2", func := "tenement/tenementlaw11.DiskKeeps", spec := "diskKeeps", inPlace := ["internal/abi.NoEscape", "internal/bytealg.MakeNoZero"], apart := false, narrowed := true }
def DiskKeepsUptoSaid : Prop := diskKeepsUptoRow.holds Try.pinned (OpenSpec.upto diskKeepsSpec)

/-- 'tenementlaw11.DiskFull', WHERE WHAT IT READS IS OF BULK AT MOST 1048576: true; the input reads as it did. -/
def diskFullUptoRow : OpenClaim := { program := "ytfokingbglkmjaa", sum := "1e409dedbe2a55dbf4e0933c2d8043c3a3b24ff41403a4b2f5342c67e0330cf2", func := "tenement/tenementlaw11.DiskFull", spec := "diskFull", inPlace := ["internal/abi.NoEscape", "internal/bytealg.MakeNoZero"], apart := false, narrowed := true }
def DiskFullUptoSaid : Prop := diskFullUptoRow.holds Try.pinned (OpenSpec.upto diskFullSpec)

/-- 'tenementlaw11.DiskCuts', WHERE WHAT IT READS IS OF BULK AT MOST 1048576: true; the input reads as it did. -/
def diskCutsUptoRow : OpenClaim := { program := "ytfokingbglkmjaa", sum := "1e409dedbe2a55dbf4e0933c2d8043c3a3b24ff41403a4b2f5342c67e0330cf2", func := "tenement/tenementlaw11.DiskCuts", spec := "diskCuts", inPlace := ["internal/abi.NoEscape", "internal/bytealg.MakeNoZero"], apart := false, narrowed := true }
def DiskCutsUptoSaid : Prop := diskCutsUptoRow.holds Try.pinned (OpenSpec.upto diskCutsSpec)

/-- 'tenementlaw09.ChainPlays', WHERE WHAT IT READS IS OF BULK AT MOST 1048576: true; the input reads as it did. -/
def chainPlaysUptoRow : OpenClaim := { program := "ytfokingbglkmjaa", sum := "1e409dedbe2a55dbf4e0933c2d8043c3a3b24ff41403a4b2f5342c67e0330cf2", func := "tenement/tenementlaw09.ChainPlays", spec := "chainPlays", inPlace := ["slices.overlaps[tenement/chain.Version[string]]"], unfollowed := true, recurses := true, apart := false, narrowed := true }
def ChainPlaysUptoSaid : Prop := chainPlaysUptoRow.holds Try.pinned (OpenSpec.upto chainPlaysSpec)

/-- 'tenementlaw09.ChainOrder', WHERE WHAT IT READS IS OF BULK AT MOST 1048576: true; the input reads as it did. -/
def chainOrderUptoRow : OpenClaim := { program := "ytfokingbglkmjaa", sum := "1e409dedbe2a55dbf4e0933c2d8043c3a3b24ff41403a4b2f5342c67e0330cf2", func := "tenement/tenementlaw09.ChainOrder", spec := "chainOrder", inPlace := ["slices.overlaps[tenement/chain.Version[string]]", "slices.overlaps[tenement/chain.Version[int]]"], unfollowed := true, recurses := true, apart := false, narrowed := true }
def ChainOrderUptoSaid : Prop := chainOrderUptoRow.holds Try.pinned (OpenSpec.upto chainOrderSpec)

/-- 'tenementlaw09.ChainPrunes', WHERE WHAT IT READS IS OF BULK AT MOST 1048576: true; the input reads as it did. -/
def chainPrunesUptoRow : OpenClaim := { program := "ytfokingbglkmjaa", sum := "1e409dedbe2a55dbf4e0933c2d8043c3a3b24ff41403a4b2f5342c67e0330cf2", func := "tenement/tenementlaw09.ChainPrunes", spec := "chainPrunes", inPlace := ["slices.overlaps[tenement/chain.Version[string]]", "slices.overlaps[tenement/chain.Version[int]]"], unfollowed := true, recurses := true, apart := false, narrowed := true }
def ChainPrunesUptoSaid : Prop := chainPrunesUptoRow.holds Try.pinned (OpenSpec.upto chainPrunesSpec)

end Rows
end Go.Proofs.Ytfokingbglkmjaa
