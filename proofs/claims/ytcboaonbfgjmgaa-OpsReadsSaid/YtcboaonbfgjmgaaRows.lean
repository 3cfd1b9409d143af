/-
  No cell of these rows narrows 'for every input' (looked for: loops, veiled, ifaces, maps, wideKeys, modest, calm, conditions, laid).
  DERIVED. THE GIVEN ROWS OF THIS SEAT. 8 by the template 'for every input the law returns true; each argument reads behind the call as it read before'; 0 by the template 'total and deterministic' (their statements: YtcboaonbfgjmgaaTotals.lean).
  GIVEN WITH THE SEED: the statements are not yours to turn. If you find one false, say at which input.
  Laid BY PROGRAM, IN A SANDBOX (cutbox-rows.mjs): the forced cells as the released guide's own fill.sh prints them over the translation e50044b0a113e722… (all of the seat's roots in one cut). By AI agents, Wed Nov 11 2026. No macro, syntax, notation, axiom, sorry.
-/
import Derived.Test.YtcboaonbfgjmgaaChecked
import GoSem.Claim
import GoSem.ClaimJoined
import GoSem.ClaimMapViews
import Derived.JoinedTies
import Derived.KernelRfl
namespace Go.Proofs.Ytcboaonbfgjmgaa
/- THE CELL 'sum', in the pinned program and in every row, IS THE sha256 OF THE DUMP (.gsa) THAT YtcboaonbfgjmgaaProg.lean LOADS. Nothing in Lean hashes anything: it is a label: what it is worth is what the hold of that sum in a sandbox is worth. -/
noncomputable def Try.pinned : Pinned := { name := "ytcboaonbfgjmgaa", sum := "e50044b0a113e7228040a668b45ef670c34056e63641d74e72a1dddf0966a657", checked := Try.checked }
namespace Rows
def none {H : Type} : Left H := { results := [], args := [] }

/-- 'trammellaw12.OpsWrites': WHATEVER THE INPUT: true; the input reads as it did. -/
def opsWritesSpec : ChangeSpec := { name := "opsWrites", fn := fun _ => fun
  | [d] => { results := [.lit (.bool true)], args := [d] }
  | _ => none }
def opsWritesRow : OpenClaim := { program := "ytcboaonbfgjmgaa", sum := "e50044b0a113e7228040a668b45ef670c34056e63641d74e72a1dddf0966a657", func := "trammel/trammellaw12.OpsWrites", spec := "opsWrites", unfollowed := true, recurses := true, apart := false }
def OpsWritesSaid : Prop := opsWritesRow.holds Try.pinned (OpenSpec.ofChange opsWritesSpec)

/-- ITS FALSE NEIGHBOUR: 'it returns false'. Refute it at one input. -/
def opsWritesWrong : ChangeSpec := { name := "opsWrites", fn := fun _ => fun
  | [d] => { results := [.lit (.bool false)], args := [d] }
  | _ => none }
def OpsWritesWrongFalsely : Prop := opsWritesRow.holds Try.pinned (OpenSpec.ofChange opsWritesWrong)

/-- 'trammellaw12.OpsShort': WHATEVER THE INPUT: true; the input reads as it did. -/
def opsShortSpec : ChangeSpec := { name := "opsShort", fn := fun _ => fun
  | [d1, d2] => { results := [.lit (.bool true)], args := [d1, d2] }
  | _ => none }
def opsShortRow : OpenClaim := { program := "ytcboaonbfgjmgaa", sum := "e50044b0a113e7228040a668b45ef670c34056e63641d74e72a1dddf0966a657", func := "trammel/trammellaw12.OpsShort", spec := "opsShort", unfollowed := true, recurses := true, apart := false }
def OpsShortSaid : Prop := opsShortRow.holds Try.pinned (OpenSpec.ofChange opsShortSpec)

/-- ITS FALSE NEIGHBOUR: 'it returns false'. Refute it at one input. -/
def opsShortWrong : ChangeSpec := { name := "opsShort", fn := fun _ => fun
  | [d1, d2] => { results := [.lit (.bool false)], args := [d1, d2] }
  | _ => none }
def OpsShortWrongFalsely : Prop := opsShortRow.holds Try.pinned (OpenSpec.ofChange opsShortWrong)

/-- 'trammellaw12.OpsForth': WHATEVER THE INPUT: true; the input reads as it did. -/
def opsForthSpec : ChangeSpec := { name := "opsForth", fn := fun _ => fun
  | [d1, d2] => { results := [.lit (.bool true)], args := [d1, d2] }
  | _ => none }
def opsForthRow : OpenClaim := { program := "ytcboaonbfgjmgaa", sum := "e50044b0a113e7228040a668b45ef670c34056e63641d74e72a1dddf0966a657", func := "trammel/trammellaw12.OpsForth", spec := "opsForth", unfollowed := true, recurses := true, apart := false }
def OpsForthSaid : Prop := opsForthRow.holds Try.pinned (OpenSpec.ofChange opsForthSpec)

/-- ITS FALSE NEIGHBOUR: 'it returns false'. Refute it at one input. -/
def opsForthWrong : ChangeSpec := { name := "opsForth", fn := fun _ => fun
  | [d1, d2] => { results := [.lit (.bool false)], args := [d1, d2] }
  | _ => none }
def OpsForthWrongFalsely : Prop := opsForthRow.holds Try.pinned (OpenSpec.ofChange opsForthWrong)

/-- 'trammellaw12.OpsNames': WHATEVER THE INPUT: true; the input reads as it did. -/
def opsNamesSpec : ChangeSpec := { name := "opsNames", fn := fun _ => fun
  | [] => { results := [.lit (.bool true)], args := [] }
  | _ => none }
def opsNamesRow : OpenClaim := { program := "ytcboaonbfgjmgaa", sum := "e50044b0a113e7228040a668b45ef670c34056e63641d74e72a1dddf0966a657", func := "trammel/trammellaw12.OpsNames", spec := "opsNames", unfollowed := true, recurses := true, apart := false }
def OpsNamesSaid : Prop := opsNamesRow.holds Try.pinned (OpenSpec.ofChange opsNamesSpec)

/-- ITS FALSE NEIGHBOUR: 'it returns false'. Refute it at one input. -/
def opsNamesWrong : ChangeSpec := { name := "opsNames", fn := fun _ => fun
  | [] => { results := [.lit (.bool false)], args := [] }
  | _ => none }
def OpsNamesWrongFalsely : Prop := opsNamesRow.holds Try.pinned (OpenSpec.ofChange opsNamesWrong)

/-- 'trammellaw12.OpsReads': WHATEVER THE INPUT: true; the input reads as it did. -/
def opsReadsSpec : ChangeSpec := { name := "opsReads", fn := fun _ => fun
  | [d1, d2] => { results := [.lit (.bool true)], args := [d1, d2] }
  | _ => none }
def opsReadsRow : OpenClaim := { program := "ytcboaonbfgjmgaa", sum := "e50044b0a113e7228040a668b45ef670c34056e63641d74e72a1dddf0966a657", func := "trammel/trammellaw12.OpsReads", spec := "opsReads", unfollowed := true, recurses := true, apart := false }
def OpsReadsSaid : Prop := opsReadsRow.holds Try.pinned (OpenSpec.ofChange opsReadsSpec)

/-- ITS FALSE NEIGHBOUR: 'it returns false'. Refute it at one input. -/
def opsReadsWrong : ChangeSpec := { name := "opsReads", fn := fun _ => fun
  | [d1, d2] => { results := [.lit (.bool false)], args := [d1, d2] }
  | _ => none }
def OpsReadsWrongFalsely : Prop := opsReadsRow.holds Try.pinned (OpenSpec.ofChange opsReadsWrong)

/-- 'trammellaw12.OpsBack': WHATEVER THE INPUT: true; the input reads as it did. -/
def opsBackSpec : ChangeSpec := { name := "opsBack", fn := fun _ => fun
  | [d] => { results := [.lit (.bool true)], args := [d] }
  | _ => none }
def opsBackRow : OpenClaim := { program := "ytcboaonbfgjmgaa", sum := "e50044b0a113e7228040a668b45ef670c34056e63641d74e72a1dddf0966a657", func := "trammel/trammellaw12.OpsBack", spec := "opsBack", unfollowed := true, recurses := true, apart := false }
def OpsBackSaid : Prop := opsBackRow.holds Try.pinned (OpenSpec.ofChange opsBackSpec)

/-- ITS FALSE NEIGHBOUR: 'it returns false'. Refute it at one input. -/
def opsBackWrong : ChangeSpec := { name := "opsBack", fn := fun _ => fun
  | [d] => { results := [.lit (.bool false)], args := [d] }
  | _ => none }
def OpsBackWrongFalsely : Prop := opsBackRow.holds Try.pinned (OpenSpec.ofChange opsBackWrong)

/-- 'trammellaw12.OpsTakes': WHATEVER THE INPUT: true; the input reads as it did. -/
def opsTakesSpec : ChangeSpec := { name := "opsTakes", fn := fun _ => fun
  | [d1, d2] => { results := [.lit (.bool true)], args := [d1, d2] }
  | _ => none }
def opsTakesRow : OpenClaim := { program := "ytcboaonbfgjmgaa", sum := "e50044b0a113e7228040a668b45ef670c34056e63641d74e72a1dddf0966a657", func := "trammel/trammellaw12.OpsTakes", spec := "opsTakes", unfollowed := true, recurses := true, apart := false }
def OpsTakesSaid : Prop := opsTakesRow.holds Try.pinned (OpenSpec.ofChange opsTakesSpec)

/-- ITS FALSE NEIGHBOUR: 'it returns false'. Refute it at one input. -/
def opsTakesWrong : ChangeSpec := { name := "opsTakes", fn := fun _ => fun
  | [d1, d2] => { results := [.lit (.bool false)], args := [d1, d2] }
  | _ => none }
def OpsTakesWrongFalsely : Prop := opsTakesRow.holds Try.pinned (OpenSpec.ofChange opsTakesWrong)

/-- 'trammellaw12.OpsKnown': WHATEVER THE INPUT: true; the input reads as it did. -/
def opsKnownSpec : ChangeSpec := { name := "opsKnown", fn := fun _ => fun
  | [] => { results := [.lit (.bool true)], args := [] }
  | _ => none }
def opsKnownRow : OpenClaim := { program := "ytcboaonbfgjmgaa", sum := "e50044b0a113e7228040a668b45ef670c34056e63641d74e72a1dddf0966a657", func := "trammel/trammellaw12.OpsKnown", spec := "opsKnown", unfollowed := true, recurses := true, apart := false }
def OpsKnownSaid : Prop := opsKnownRow.holds Try.pinned (OpenSpec.ofChange opsKnownSpec)

/-- ITS FALSE NEIGHBOUR: 'it returns false'. Refute it at one input. -/
def opsKnownWrong : ChangeSpec := { name := "opsKnown", fn := fun _ => fun
  | [] => { results := [.lit (.bool false)], args := [] }
  | _ => none }
def OpsKnownWrongFalsely : Prop := opsKnownRow.holds Try.pinned (OpenSpec.ofChange opsKnownWrong)

/- THE SECOND FORM. 'bulk': how many values and letters a reading holds, each counted each time it is reached (what is shared counts as often as it is met; a slice's spare places count too). A statement '..UptoSaid' is the law's where the arguments, and the package variables that the reading takes, are together of bulk at most 1048576: NARROWER than '..Said'. Prove '..Said' where nothing that the law and all that it calls make is longer than what came in: it says more and counts as full. Else prove '..UptoSaid'. A law counts once. -/
mutual
def uptoBulk {H : Type} : DataW H → Nat
  | .lit (.string bytes) => bytes.length + 1
  | .lit _ => 1
  | .nil => 1
  | .ptr d => uptoBulk d + 1
  | .slice elems spare => uptoBulkAll elems + uptoBulkAll spare + 1
  | .agg parts => uptoBulkAll parts + 1
  | .iface _ d => uptoBulk d + 1
  | .map entries => uptoBulkEntries entries + 1
  | .held _ => 1
def uptoBulkAll {H : Type} : List (DataW H) → Nat
  | [] => 0
  | d :: r => uptoBulk d + uptoBulkAll r
def uptoBulkEntries {H : Type} : List (Lit × DataW H) → Nat
  | [] => 0
  | x :: r => uptoBulkEntry x + uptoBulkEntries r
def uptoBulkEntry {H : Type} : Lit × DataW H → Nat
  | (.string bytes, d) => bytes.length + uptoBulk d + 1
  | (_, d) => uptoBulk d + 1
 end
def uptoSmall : (H : Type) → List (DataW H) → Bool := fun _ ds => decide (uptoBulkAll ds ≤ 1048576)
def OpenSpec.upto (s : _root_.Go.ChangeSpec) : _root_.Go.OpenSpec := { _root_.Go.OpenSpec.ofChange s with cond := some uptoSmall }

/-- 'trammellaw12.OpsWrites', WHERE WHAT IT READS IS OF BULK AT MOST 1048576: true; the input reads as it did. -/
def opsWritesUptoRow : OpenClaim := { program := "ytcboaonbfgjmgaa", sum := "e50044b0a113e7228040a668b45ef670c34056e63641d74e72a1dddf0966a657", func := "trammel/trammellaw12.OpsWrites", spec := "opsWrites", unfollowed := true, recurses := true, apart := false, narrowed := true }
def OpsWritesUptoSaid : Prop := opsWritesUptoRow.holds Try.pinned (OpenSpec.upto opsWritesSpec)

/-- 'trammellaw12.OpsShort', WHERE WHAT IT READS IS OF BULK AT MOST 1048576: true; the input reads as it did. -/
def opsShortUptoRow : OpenClaim := { program := "ytcboaonbfgjmgaa", sum := "e50044b0a113e7228040a668b45ef670c34056e63641d74e72a1dddf0966a657", func := "trammel/trammellaw12.OpsShort", spec := "opsShort", unfollowed := true, recurses := true, apart := false, narrowed := true }
def OpsShortUptoSaid : Prop := opsShortUptoRow.holds Try.pinned (OpenSpec.upto opsShortSpec)

/-- 'trammellaw12.OpsForth', WHERE WHAT IT READS IS OF BULK AT MOST 1048576: true; the input reads as it did. -/
def opsForthUptoRow : OpenClaim := { program := "ytcboaonbfgjmgaa", sum := "e50044b0a113e7228040a668b45ef670c34056e63641d74e72a1dddf0966a657", func := "trammel/trammellaw12.OpsForth", spec := "opsForth", unfollowed := true, recurses := true, apart := false, narrowed := true }
def OpsForthUptoSaid : Prop := opsForthUptoRow.holds Try.pinned (OpenSpec.upto opsForthSpec)

/-- 'trammellaw12.OpsNames', WHERE WHAT IT READS IS OF BULK AT MOST 1048576: true; the input reads as it did. -/
def opsNamesUptoRow : OpenClaim := { program := "ytcboaonbfgjmgaa", sum := "e50044b0a113e7228040a668b45ef670c34056e63641d74e72a1dddf0966a657", func := "trammel/trammellaw12.OpsNames", spec := "opsNames", unfollowed := true, recurses := true, apart := false, narrowed := true }
def OpsNamesUptoSaid : Prop := opsNamesUptoRow.holds Try.pinned (OpenSpec.upto opsNamesSpec)

/-- 'trammellaw12.OpsReads', WHERE WHAT IT READS IS OF BULK AT MOST 1048576: true; the input reads as it did. -/
def opsReadsUptoRow : OpenClaim := { program := "ytcboaonbfgjmgaa", sum := "e50044b0a113e7228040a668b45ef670c34056e63641d74e72a1dddf0966a657", func := "trammel/trammellaw12.OpsReads", spec := "opsReads", unfollowed := true, recurses := true, apart := false, narrowed := true }
def OpsReadsUptoSaid : Prop := opsReadsUptoRow.holds Try.pinned (OpenSpec.upto opsReadsSpec)

/-- 'trammellaw12.OpsBack', WHERE WHAT IT READS IS OF BULK AT MOST 1048576: true; the input reads as it did. -/
def opsBackUptoRow : OpenClaim := { program := "ytcboaonbfgjmgaa", sum := "e50044b0a113e7228040a668b45ef670c34056e63641d74e72a1dddf0966a657", func := "trammel/trammellaw12.OpsBack", spec := "opsBack", unfollowed := true, recurses := true, apart := false, narrowed := true }
def OpsBackUptoSaid : Prop := opsBackUptoRow.holds Try.pinned (OpenSpec.upto opsBackSpec)

/-- 'trammellaw12.OpsTakes', WHERE WHAT IT READS IS OF BULK AT MOST 1048576: true; the input reads as it did. -/
def opsTakesUptoRow : OpenClaim := { program := "ytcboaonbfgjmgaa", sum := "e50044b0a113e7228040a668b45ef670c34056e63641d74e72a1dddf0966a657", func := "trammel/trammellaw12.OpsTakes", spec := "opsTakes", unfollowed := true, recurses := true, apart := false, narrowed := true }
def OpsTakesUptoSaid : Prop := opsTakesUptoRow.holds Try.pinned (OpenSpec.upto opsTakesSpec)

/-- 'trammellaw12.OpsKnown', WHERE WHAT IT READS IS OF BULK AT MOST 1048576: true; the input reads as it did. -/
def opsKnownUptoRow : OpenClaim := { program := "ytcboaonbfgjmgaa", sum := "e50044b0a113e7228040a668b45ef670c34056e63641d74e72a1dddf0966a657", func := "trammel/trammellaw12.OpsKnown", spec := "opsKnown", unfollowed := true, recurses := true, apart := false, narrowed := true }
def OpsKnownUptoSaid : Prop := opsKnownUptoRow.holds Try.pinned (OpenSpec.upto opsKnownSpec)

end Rows
end Go.Proofs.Ytcboaonbfgjmgaa
