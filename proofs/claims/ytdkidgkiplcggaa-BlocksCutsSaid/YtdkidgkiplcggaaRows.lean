/-
  No cell of these rows narrows 'for every input' (looked for: loops, veiled, ifaces, maps, wideKeys, modest, calm, conditions, laid).
  DERIVED. THE GIVEN ROWS OF THIS SEAT. 8 by the template 'for every input the law returns true; each argument reads behind the call as it read before'; 0 by the template 'total and deterministic' (their statements: YtdkidgkiplcggaaTotals.lean).
  GIVEN WITH THE SEED: the statements are not yours to turn. If you find one false, say at which input.
  Laid BY PROGRAM, IN A SANDBOX (cutbox-rows.mjs): the forced cells as the released guide's own fill.sh prints them over the translation 0fef413756b4d28a… (all of the seat's roots in one cut). By AI agents, Wed Nov 11 2026. No macro, syntax, notation, axiom, sorry.
-/
import Derived.Test.YtdkidgkiplcggaaChecked
import GoSem.Claim
import GoSem.ClaimJoined
import GoSem.ClaimMapViews
import Derived.JoinedTies
import Derived.KernelRfl
namespace Go.Proofs.Ytdkidgkiplcggaa
/- THE CELL 'sum', in the pinned program and in every row, IS THE sha256 OF THE DUMP (.gsa) THAT YtdkidgkiplcggaaProg.lean LOADS. Nothing in Lean hashes anything: it is a label: what it is worth is what the hold of that sum in a sandbox is worth. -/
noncomputable def Try.pinned : Pinned := { name := "ytdkidgkiplcggaa", sum := "0fef413756b4d28ad4f8e0a7ee609af093a057842095ec0df8caf271bf5d1d46", checked := Try.checked }
namespace Rows
def none {H : Type} : Left H := { results := [], args := [] }

/-- 'trammellaw19.BlocksCuts': WHATEVER THE INPUT: true; the input reads as it did. -/
def blocksCutsSpec : ChangeSpec := { name := "blocksCuts", fn := fun _ => fun
  | [d] => { results := [.lit (.bool true)], args := [d] }
  | _ => none }
def blocksCutsRow : OpenClaim := { program := "ytdkidgkiplcggaa", sum := "0fef413756b4d28ad4f8e0a7ee609af093a057842095ec0df8caf271bf5d1d46", func := "trammel/trammellaw19.BlocksCuts", spec := "blocksCuts", unfollowed := true, recurses := true, apart := false }
def BlocksCutsSaid : Prop := blocksCutsRow.holds Try.pinned (OpenSpec.ofChange blocksCutsSpec)

/-- ITS FALSE NEIGHBOUR: 'it returns false'. Refute it at one input. -/
def blocksCutsWrong : ChangeSpec := { name := "blocksCuts", fn := fun _ => fun
  | [d] => { results := [.lit (.bool false)], args := [d] }
  | _ => none }
def BlocksCutsWrongFalsely : Prop := blocksCutsRow.holds Try.pinned (OpenSpec.ofChange blocksCutsWrong)

/-- 'trammellaw19.BlocksReaches': WHATEVER THE INPUT: true; the input reads as it did. -/
def blocksReachesSpec : ChangeSpec := { name := "blocksReaches", fn := fun _ => fun
  | [d] => { results := [.lit (.bool true)], args := [d] }
  | _ => none }
def blocksReachesRow : OpenClaim := { program := "ytdkidgkiplcggaa", sum := "0fef413756b4d28ad4f8e0a7ee609af093a057842095ec0df8caf271bf5d1d46", func := "trammel/trammellaw19.BlocksReaches", spec := "blocksReaches", unfollowed := true, recurses := true, apart := false }
def BlocksReachesSaid : Prop := blocksReachesRow.holds Try.pinned (OpenSpec.ofChange blocksReachesSpec)

/-- ITS FALSE NEIGHBOUR: 'it returns false'. Refute it at one input. -/
def blocksReachesWrong : ChangeSpec := { name := "blocksReaches", fn := fun _ => fun
  | [d] => { results := [.lit (.bool false)], args := [d] }
  | _ => none }
def BlocksReachesWrongFalsely : Prop := blocksReachesRow.holds Try.pinned (OpenSpec.ofChange blocksReachesWrong)

/-- 'trammellaw19.BlocksTile': WHATEVER THE INPUT: true; the input reads as it did. -/
def blocksTileSpec : ChangeSpec := { name := "blocksTile", fn := fun _ => fun
  | [d] => { results := [.lit (.bool true)], args := [d] }
  | _ => none }
def blocksTileRow : OpenClaim := { program := "ytdkidgkiplcggaa", sum := "0fef413756b4d28ad4f8e0a7ee609af093a057842095ec0df8caf271bf5d1d46", func := "trammel/trammellaw19.BlocksTile", spec := "blocksTile", unfollowed := true, recurses := true, apart := false }
def BlocksTileSaid : Prop := blocksTileRow.holds Try.pinned (OpenSpec.ofChange blocksTileSpec)

/-- ITS FALSE NEIGHBOUR: 'it returns false'. Refute it at one input. -/
def blocksTileWrong : ChangeSpec := { name := "blocksTile", fn := fun _ => fun
  | [d] => { results := [.lit (.bool false)], args := [d] }
  | _ => none }
def BlocksTileWrongFalsely : Prop := blocksTileRow.holds Try.pinned (OpenSpec.ofChange blocksTileWrong)

/-- 'trammellaw19.BlocksJoin': WHATEVER THE INPUT: true; the input reads as it did. -/
def blocksJoinSpec : ChangeSpec := { name := "blocksJoin", fn := fun _ => fun
  | [d1, d2] => { results := [.lit (.bool true)], args := [d1, d2] }
  | _ => none }
def blocksJoinRow : OpenClaim := { program := "ytdkidgkiplcggaa", sum := "0fef413756b4d28ad4f8e0a7ee609af093a057842095ec0df8caf271bf5d1d46", func := "trammel/trammellaw19.BlocksJoin", spec := "blocksJoin", unfollowed := true, recurses := true, apart := false }
def BlocksJoinSaid : Prop := blocksJoinRow.holds Try.pinned (OpenSpec.ofChange blocksJoinSpec)

/-- ITS FALSE NEIGHBOUR: 'it returns false'. Refute it at one input. -/
def blocksJoinWrong : ChangeSpec := { name := "blocksJoin", fn := fun _ => fun
  | [d1, d2] => { results := [.lit (.bool false)], args := [d1, d2] }
  | _ => none }
def BlocksJoinWrongFalsely : Prop := blocksJoinRow.holds Try.pinned (OpenSpec.ofChange blocksJoinWrong)

/-- 'trammellaw19.BlocksLeast': WHATEVER THE INPUT: true; the input reads as it did. -/
def blocksLeastSpec : ChangeSpec := { name := "blocksLeast", fn := fun _ => fun
  | [d] => { results := [.lit (.bool true)], args := [d] }
  | _ => none }
def blocksLeastRow : OpenClaim := { program := "ytdkidgkiplcggaa", sum := "0fef413756b4d28ad4f8e0a7ee609af093a057842095ec0df8caf271bf5d1d46", func := "trammel/trammellaw19.BlocksLeast", spec := "blocksLeast", unfollowed := true, recurses := true, apart := false }
def BlocksLeastSaid : Prop := blocksLeastRow.holds Try.pinned (OpenSpec.ofChange blocksLeastSpec)

/-- ITS FALSE NEIGHBOUR: 'it returns false'. Refute it at one input. -/
def blocksLeastWrong : ChangeSpec := { name := "blocksLeast", fn := fun _ => fun
  | [d] => { results := [.lit (.bool false)], args := [d] }
  | _ => none }
def BlocksLeastWrongFalsely : Prop := blocksLeastRow.holds Try.pinned (OpenSpec.ofChange blocksLeastWrong)

/-- 'trammellaw19.BlocksKnown': WHATEVER THE INPUT: true; the input reads as it did. -/
def blocksKnownSpec : ChangeSpec := { name := "blocksKnown", fn := fun _ => fun
  | [] => { results := [.lit (.bool true)], args := [] }
  | _ => none }
def blocksKnownRow : OpenClaim := { program := "ytdkidgkiplcggaa", sum := "0fef413756b4d28ad4f8e0a7ee609af093a057842095ec0df8caf271bf5d1d46", func := "trammel/trammellaw19.BlocksKnown", spec := "blocksKnown", unfollowed := true, recurses := true, apart := false }
def BlocksKnownSaid : Prop := blocksKnownRow.holds Try.pinned (OpenSpec.ofChange blocksKnownSpec)

/-- ITS FALSE NEIGHBOUR: 'it returns false'. Refute it at one input. -/
def blocksKnownWrong : ChangeSpec := { name := "blocksKnown", fn := fun _ => fun
  | [] => { results := [.lit (.bool false)], args := [] }
  | _ => none }
def BlocksKnownWrongFalsely : Prop := blocksKnownRow.holds Try.pinned (OpenSpec.ofChange blocksKnownWrong)

/-- 'trammellaw21.TransferHeights': WHATEVER THE INPUT: true; the input reads as it did. -/
def transferHeightsSpec : ChangeSpec := { name := "transferHeights", fn := fun _ => fun
  | [d1, d2, d3, d4] => { results := [.lit (.bool true)], args := [d1, d2, d3, d4] }
  | _ => none }
def transferHeightsRow : OpenClaim := { program := "ytdkidgkiplcggaa", sum := "0fef413756b4d28ad4f8e0a7ee609af093a057842095ec0df8caf271bf5d1d46", func := "trammel/trammellaw21.TransferHeights", spec := "transferHeights", unfollowed := true, recurses := true, apart := false }
def TransferHeightsSaid : Prop := transferHeightsRow.holds Try.pinned (OpenSpec.ofChange transferHeightsSpec)

/-- ITS FALSE NEIGHBOUR: 'it returns false'. Refute it at one input. -/
def transferHeightsWrong : ChangeSpec := { name := "transferHeights", fn := fun _ => fun
  | [d1, d2, d3, d4] => { results := [.lit (.bool false)], args := [d1, d2, d3, d4] }
  | _ => none }
def TransferHeightsWrongFalsely : Prop := transferHeightsRow.holds Try.pinned (OpenSpec.ofChange transferHeightsWrong)

/-- 'trammellaw21.TransferKnown': WHATEVER THE INPUT: true; the input reads as it did. -/
def transferKnownSpec : ChangeSpec := { name := "transferKnown", fn := fun _ => fun
  | [] => { results := [.lit (.bool true)], args := [] }
  | _ => none }
def transferKnownRow : OpenClaim := { program := "ytdkidgkiplcggaa", sum := "0fef413756b4d28ad4f8e0a7ee609af093a057842095ec0df8caf271bf5d1d46", func := "trammel/trammellaw21.TransferKnown", spec := "transferKnown", unfollowed := true, recurses := true, apart := false }
def TransferKnownSaid : Prop := transferKnownRow.holds Try.pinned (OpenSpec.ofChange transferKnownSpec)

/-- ITS FALSE NEIGHBOUR: 'it returns false'. Refute it at one input. -/
def transferKnownWrong : ChangeSpec := { name := "transferKnown", fn := fun _ => fun
  | [] => { results := [.lit (.bool false)], args := [] }
  | _ => none }
def TransferKnownWrongFalsely : Prop := transferKnownRow.holds Try.pinned (OpenSpec.ofChange transferKnownWrong)

/- THE SECOND FORM. 'bulk': how many values and letters a reading holds, each counted each time it is reached (what is shared counts as often as it is met; a slice's spare places count too). A statement '..UptoSaid' is the law's where the arguments, and the package variables that the reading takes, are together of bulk at most 1048576: NARROWER than '..Said'. Prove '..Said' where nothing that the law and all that it calls make is longer than what came in: it says more and counts as full. Else prove '..UptoSaid'. A law counts once. -/
mutual
def uptoBulk {H : Type} : DataW H → Nat
  | .lit (.string bytes) => bytes.length + 1
  | .lit _ => 1
  | .nil => 1
  | .ptr d => uptoBulk d + 1
  | .slice elems spare => uptoBulkAll elems + uptoBulkAll spare + 1
  | .agg parts => uptoBulkAll parts + 1
  | .iface _ d => uptoBulk d + 1
  | .map entries => uptoBulkEntries entries + 1
  | .held _ => 1
def uptoBulkAll {H : Type} : List (DataW H) → Nat
  | [] => 0
  | d :: r => uptoBulk d + uptoBulkAll r
def uptoBulkEntries {H : Type} : List (Lit × DataW H) → Nat
  | [] => 0
  | x :: r => uptoBulkEntry x + uptoBulkEntries r
def uptoBulkEntry {H : Type} : Lit × DataW H → Nat
  | (.string bytes, d) => bytes.length + uptoBulk d + 1
  | (_, d) => uptoBulk d + 1
 end
def uptoSmall : (H : Type) → List (DataW H) → Bool := fun _ ds => decide (uptoBulkAll ds ≤ 1048576)
def OpenSpec.upto (s : _root_.Go.ChangeSpec) : _root_.Go.OpenSpec := { _root_.Go.OpenSpec.ofChange s with cond := some uptoSmall }

/-- 'trammellaw19.BlocksCuts', WHERE WHAT IT READS IS OF BULK AT MOST 1048576: true; the input reads as it did. -/
def blocksCutsUptoRow : OpenClaim := { program := "ytdkidgkiplcggaa", sum := "0fef413756b4d28ad4f8e0a7ee609af093a057842095ec0df8caf271bf5d1d46", func := "trammel/trammellaw19.BlocksCuts", spec := "blocksCuts", unfollowed := true, recurses := true, apart := false, narrowed := true }
def BlocksCutsUptoSaid : Prop := blocksCutsUptoRow.holds Try.pinned (OpenSpec.upto blocksCutsSpec)

/-- 'trammellaw19.BlocksReaches', WHERE WHAT IT READS IS OF BULK AT MOST 1048576: true; the input reads as it did. -/
def blocksReachesUptoRow : OpenClaim := { program := "ytdkidgkiplcggaa", sum := "0fef413756b4d28ad4f8e0a7ee609af093a057842095ec0df8caf271bf5d1d46", func := "trammel/trammellaw19.BlocksReaches", spec := "blocksReaches", unfollowed := true, recurses := true, apart := false, narrowed := true }
def BlocksReachesUptoSaid : Prop := blocksReachesUptoRow.holds Try.pinned (OpenSpec.upto blocksReachesSpec)

/-- 'trammellaw19.BlocksTile', WHERE WHAT IT READS IS OF BULK AT MOST 1048576: true; the input reads as it did. -/
def blocksTileUptoRow : OpenClaim := { program := "ytdkidgkiplcggaa", sum := "0fef413756b4d28ad4f8e0a7ee609af093a057842095ec0df8caf271bf5d1d46", func := "trammel/trammellaw19.BlocksTile", spec := "blocksTile", unfollowed := true, recurses := true, apart := false, narrowed := true }
def BlocksTileUptoSaid : Prop := blocksTileUptoRow.holds Try.pinned (OpenSpec.upto blocksTileSpec)

/-- 'trammellaw19.BlocksJoin', WHERE WHAT IT READS IS OF BULK AT MOST 1048576: true; the input reads as it did. -/
def blocksJoinUptoRow : OpenClaim := { program := "ytdkidgkiplcggaa", sum := "0fef413756b4d28ad4f8e0a7ee609af093a057842095ec0df8caf271bf5d1d46", func := "trammel/trammellaw19.BlocksJoin", spec := "blocksJoin", unfollowed := true, recurses := true, apart := false, narrowed := true }
def BlocksJoinUptoSaid : Prop := blocksJoinUptoRow.holds Try.pinned (OpenSpec.upto blocksJoinSpec)

/-- 'trammellaw19.BlocksLeast', WHERE WHAT IT READS IS OF BULK AT MOST 1048576: true; the input reads as it did. -/
def blocksLeastUptoRow : OpenClaim := { program := "ytdkidgkiplcggaa", sum := "0fef413756b4d28ad4f8e0a7ee609af093a057842095ec0df8caf271bf5d1d46", func := "trammel/trammellaw19.BlocksLeast", spec := "blocksLeast", unfollowed := true, recurses := true, apart := false, narrowed := true }
def BlocksLeastUptoSaid : Prop := blocksLeastUptoRow.holds Try.pinned (OpenSpec.upto blocksLeastSpec)

/-- 'trammellaw19.BlocksKnown', WHERE WHAT IT READS IS OF BULK AT MOST 1048576: true; the input reads as it did. -/
def blocksKnownUptoRow : OpenClaim := { program := "ytdkidgkiplcggaa", sum := "0fef413756b4d28ad4f8e0a7ee609af093a057842095ec0df8caf271bf5d1d46", func := "trammel/trammellaw19.BlocksKnown", spec := "blocksKnown", unfollowed := true, recurses := true, apart := false, narrowed := true }
def BlocksKnownUptoSaid : Prop := blocksKnownUptoRow.holds Try.pinned (OpenSpec.upto blocksKnownSpec)

/-- 'trammellaw21.TransferHeights', WHERE WHAT IT READS IS OF BULK AT MOST 1048576: true; the input reads as it did. -/
def transferHeightsUptoRow : OpenClaim := { program := "ytdkidgkiplcggaa", sum := "0fef413756b4d28ad4f8e0a7ee609af093a057842095ec0df8caf271bf5d1d46", func := "trammel/trammellaw21.TransferHeights", spec := "transferHeights", unfollowed := true, recurses := true, apart := false, narrowed := true }
def TransferHeightsUptoSaid : Prop := transferHeightsUptoRow.holds Try.pinned (OpenSpec.upto transferHeightsSpec)

/-- 'trammellaw21.TransferKnown', WHERE WHAT IT READS IS OF BULK AT MOST 1048576: true; the input reads as it did. -/
def transferKnownUptoRow : OpenClaim := { program := "ytdkidgkiplcggaa", sum := "0fef413756b4d28ad4f8e0a7ee609af093a057842095ec0df8caf271bf5d1d46", func := "trammel/trammellaw21.TransferKnown", spec := "transferKnown", unfollowed := true, recurses := true, apart := false, narrowed := true }
def TransferKnownUptoSaid : Prop := transferKnownUptoRow.holds Try.pinned (OpenSpec.upto transferKnownSpec)

end Rows
end Go.Proofs.Ytdkidgkiplcggaa
