/-
  No cell of these rows narrows 'for every input' (looked for: loops, veiled, ifaces, maps, wideKeys, modest, calm, conditions, laid).
  DERIVED. THE GIVEN ROWS OF THIS SEAT. 7 by the template 'for every input the law returns true; each argument reads behind the call as it read before'; 0 by the template 'total and deterministic' (their statements: YtcjncidahjneaaaTotals.lean).
  GIVEN WITH THE SEED: the statements are not yours to turn. If you find one false, say at which input.
  Laid BY PROGRAM, IN A SANDBOX (cutbox-rows.mjs): the forced cells as the released guide's own fill.sh prints them over the translation 36ff8b91cdfe90ac… (all of the seat's roots in one cut). By AI agents, Wed Nov 11 2026. No macro, syntax, notation, axiom, sorry.
-/
import Derived.Test.YtcjncidahjneaaaChecked
import GoSem.Claim
import GoSem.ClaimJoined
import GoSem.ClaimMapViews
import Derived.JoinedTies
import Derived.KernelRfl
namespace Go.Proofs.Ytcjncidahjneaaa
/- THE CELL 'sum', in the pinned program and in every row, IS THE sha256 OF THE DUMP (.gsa) THAT YtcjncidahjneaaaProg.lean LOADS. Nothing in Lean hashes anything: it is a label: what it is worth is what the hold of that sum in a sandbox is worth. -/
noncomputable def Try.pinned : Pinned := { name := "ytcjncidahjneaaa", sum := "36ff8b91cdfe90acbbc6f5e491a68b5c7c7f83918e81f08d8774e91b1c6ec5c4", checked := Try.checked }
namespace Rows
def none {H : Type} : Left H := { results := [], args := [] }

/-- 'citadellaw12.VaultHeads': WHATEVER THE INPUT: true; the input reads as it did. -/
def vaultHeadsSpec : ChangeSpec := { name := "vaultHeads", fn := fun _ => fun
  | [d1, d2, d3] => { results := [.lit (.bool true)], args := [d1, d2, d3] }
  | _ => none }
def vaultHeadsRow : OpenClaim := { program := "ytcjncidahjneaaa", sum := "36ff8b91cdfe90acbbc6f5e491a68b5c7c7f83918e81f08d8774e91b1c6ec5c4", func := "citadel/citadellaw12.VaultHeads", spec := "vaultHeads", unfollowed := true, recurses := true, apart := false }
def VaultHeadsSaid : Prop := vaultHeadsRow.holds Try.pinned (OpenSpec.ofChange vaultHeadsSpec)

/-- ITS FALSE NEIGHBOUR: 'it returns false'. Refute it at one input. -/
def vaultHeadsWrong : ChangeSpec := { name := "vaultHeads", fn := fun _ => fun
  | [d1, d2, d3] => { results := [.lit (.bool false)], args := [d1, d2, d3] }
  | _ => none }
def VaultHeadsWrongFalsely : Prop := vaultHeadsRow.holds Try.pinned (OpenSpec.ofChange vaultHeadsWrong)

/-- 'citadellaw10.RedoEncodes': WHATEVER THE INPUT: true; the input reads as it did. -/
def redoEncodesSpec : ChangeSpec := { name := "redoEncodes", fn := fun _ => fun
  | [d1, d2, d3] => { results := [.lit (.bool true)], args := [d1, d2, d3] }
  | _ => none }
def redoEncodesRow : OpenClaim := { program := "ytcjncidahjneaaa", sum := "36ff8b91cdfe90acbbc6f5e491a68b5c7c7f83918e81f08d8774e91b1c6ec5c4", func := "citadel/citadellaw10.RedoEncodes", spec := "redoEncodes", unfollowed := true, recurses := true, apart := false }
def RedoEncodesSaid : Prop := redoEncodesRow.holds Try.pinned (OpenSpec.ofChange redoEncodesSpec)

/-- ITS FALSE NEIGHBOUR: 'it returns false'. Refute it at one input. -/
def redoEncodesWrong : ChangeSpec := { name := "redoEncodes", fn := fun _ => fun
  | [d1, d2, d3] => { results := [.lit (.bool false)], args := [d1, d2, d3] }
  | _ => none }
def RedoEncodesWrongFalsely : Prop := redoEncodesRow.holds Try.pinned (OpenSpec.ofChange redoEncodesWrong)

/-- 'citadellaw10.RedoDecodes': WHATEVER THE INPUT: true; the input reads as it did. -/
def redoDecodesSpec : ChangeSpec := { name := "redoDecodes", fn := fun _ => fun
  | [d1, d2] => { results := [.lit (.bool true)], args := [d1, d2] }
  | _ => none }
def redoDecodesRow : OpenClaim := { program := "ytcjncidahjneaaa", sum := "36ff8b91cdfe90acbbc6f5e491a68b5c7c7f83918e81f08d8774e91b1c6ec5c4", func := "citadel/citadellaw10.RedoDecodes", spec := "redoDecodes", unfollowed := true, recurses := true, apart := false }
def RedoDecodesSaid : Prop := redoDecodesRow.holds Try.pinned (OpenSpec.ofChange redoDecodesSpec)

/-- ITS FALSE NEIGHBOUR: 'it returns false'. Refute it at one input. -/
def redoDecodesWrong : ChangeSpec := { name := "redoDecodes", fn := fun _ => fun
  | [d1, d2] => { results := [.lit (.bool false)], args := [d1, d2] }
  | _ => none }
def RedoDecodesWrongFalsely : Prop := redoDecodesRow.holds Try.pinned (OpenSpec.ofChange redoDecodesWrong)

/-- 'citadellaw10.RedoReturns': WHATEVER THE INPUT: true; the input reads as it did. -/
def redoReturnsSpec : ChangeSpec := { name := "redoReturns", fn := fun _ => fun
  | [d] => { results := [.lit (.bool true)], args := [d] }
  | _ => none }
def redoReturnsRow : OpenClaim := { program := "ytcjncidahjneaaa", sum := "36ff8b91cdfe90acbbc6f5e491a68b5c7c7f83918e81f08d8774e91b1c6ec5c4", func := "citadel/citadellaw10.RedoReturns", spec := "redoReturns", unfollowed := true, recurses := true, apart := false }
def RedoReturnsSaid : Prop := redoReturnsRow.holds Try.pinned (OpenSpec.ofChange redoReturnsSpec)

/-- ITS FALSE NEIGHBOUR: 'it returns false'. Refute it at one input. -/
def redoReturnsWrong : ChangeSpec := { name := "redoReturns", fn := fun _ => fun
  | [d] => { results := [.lit (.bool false)], args := [d] }
  | _ => none }
def RedoReturnsWrongFalsely : Prop := redoReturnsRow.holds Try.pinned (OpenSpec.ofChange redoReturnsWrong)

/-- 'citadellaw10.RedoMixed': WHATEVER THE INPUT: true; the input reads as it did. -/
def redoMixedSpec : ChangeSpec := { name := "redoMixed", fn := fun _ => fun
  | [d1, d2, d3] => { results := [.lit (.bool true)], args := [d1, d2, d3] }
  | _ => none }
def redoMixedRow : OpenClaim := { program := "ytcjncidahjneaaa", sum := "36ff8b91cdfe90acbbc6f5e491a68b5c7c7f83918e81f08d8774e91b1c6ec5c4", func := "citadel/citadellaw10.RedoMixed", spec := "redoMixed", unfollowed := true, recurses := true, apart := false }
def RedoMixedSaid : Prop := redoMixedRow.holds Try.pinned (OpenSpec.ofChange redoMixedSpec)

/-- ITS FALSE NEIGHBOUR: 'it returns false'. Refute it at one input. -/
def redoMixedWrong : ChangeSpec := { name := "redoMixed", fn := fun _ => fun
  | [d1, d2, d3] => { results := [.lit (.bool false)], args := [d1, d2, d3] }
  | _ => none }
def RedoMixedWrongFalsely : Prop := redoMixedRow.holds Try.pinned (OpenSpec.ofChange redoMixedWrong)

/-- 'citadellaw10.RedoApart': WHATEVER THE INPUT: true; the input reads as it did. -/
def redoApartSpec : ChangeSpec := { name := "redoApart", fn := fun _ => fun
  | [d] => { results := [.lit (.bool true)], args := [d] }
  | _ => none }
def redoApartRow : OpenClaim := { program := "ytcjncidahjneaaa", sum := "36ff8b91cdfe90acbbc6f5e491a68b5c7c7f83918e81f08d8774e91b1c6ec5c4", func := "citadel/citadellaw10.RedoApart", spec := "redoApart", unfollowed := true, recurses := true, apart := false }
def RedoApartSaid : Prop := redoApartRow.holds Try.pinned (OpenSpec.ofChange redoApartSpec)

/-- ITS FALSE NEIGHBOUR: 'it returns false'. Refute it at one input. -/
def redoApartWrong : ChangeSpec := { name := "redoApart", fn := fun _ => fun
  | [d] => { results := [.lit (.bool false)], args := [d] }
  | _ => none }
def RedoApartWrongFalsely : Prop := redoApartRow.holds Try.pinned (OpenSpec.ofChange redoApartWrong)

/-- 'citadellaw10.RedoMerge': WHATEVER THE INPUT: true; the input reads as it did. -/
def redoMergeSpec : ChangeSpec := { name := "redoMerge", fn := fun _ => fun
  | [d] => { results := [.lit (.bool true)], args := [d] }
  | _ => none }
def redoMergeRow : OpenClaim := { program := "ytcjncidahjneaaa", sum := "36ff8b91cdfe90acbbc6f5e491a68b5c7c7f83918e81f08d8774e91b1c6ec5c4", func := "citadel/citadellaw10.RedoMerge", spec := "redoMerge", unfollowed := true, recurses := true, apart := false }
def RedoMergeSaid : Prop := redoMergeRow.holds Try.pinned (OpenSpec.ofChange redoMergeSpec)

/-- ITS FALSE NEIGHBOUR: 'it returns false'. Refute it at one input. -/
def redoMergeWrong : ChangeSpec := { name := "redoMerge", fn := fun _ => fun
  | [d] => { results := [.lit (.bool false)], args := [d] }
  | _ => none }
def RedoMergeWrongFalsely : Prop := redoMergeRow.holds Try.pinned (OpenSpec.ofChange redoMergeWrong)

/- THE SECOND FORM. 'bulk': how many values and letters a reading holds, each counted each time it is reached (what is shared counts as often as it is met; a slice's spare places count too). A statement '..UptoSaid' is the law's where the arguments, and the package variables that the reading takes, are together of bulk at most 1048576: NARROWER than '..Said'. Prove '..Said' where nothing that the law and all that it calls make is longer than what came in: it says more and counts as full. Else prove '..UptoSaid'. A law counts once. -/
mutual
def uptoBulk {H : Type} : DataW H → Nat
  | .lit (.string bytes) => bytes.length + 1
  | .lit _ => 1
  | .nil => 1
  | .ptr d => uptoBulk d + 1
  | .slice elems spare => uptoBulkAll elems + uptoBulkAll spare + 1
  | .agg parts => uptoBulkAll parts + 1
  | .iface _ d => uptoBulk d + 1
  | .map entries => uptoBulkEntries entries + 1
  | .held _ => 1
def uptoBulkAll {H : Type} : List (DataW H) → Nat
  | [] => 0
  | d :: r => uptoBulk d + uptoBulkAll r
def uptoBulkEntries {H : Type} : List (Lit × DataW H) → Nat
  | [] => 0
  | x :: r => uptoBulkEntry x + uptoBulkEntries r
def uptoBulkEntry {H : Type} : Lit × DataW H → Nat
  | (.string bytes, d) => bytes.length + uptoBulk d + 1
  | (_, d) => uptoBulk d + 1
 end
def uptoSmall : (H : Type) → List (DataW H) → Bool := fun _ ds => decide (uptoBulkAll ds ≤ 1048576)
def OpenSpec.upto (s : _root_.Go.ChangeSpec) : _root_.Go.OpenSpec := { _root_.Go.OpenSpec.ofChange s with cond := some uptoSmall }

/-- 'citadellaw12.VaultHeads', WHERE WHAT IT READS IS OF BULK AT MOST 1048576: true; the input reads as it did. -/
def vaultHeadsUptoRow : OpenClaim := { program := "ytcjncidahjneaaa", sum := "36ff8b91cdfe90acbbc6f5e491a68b5c7c7f83918e81f08d8774e91b1c6ec5c4", func := "citadel/citadellaw12.VaultHeads", spec := "vaultHeads", unfollowed := true, recurses := true, apart := false, narrowed := true }
def VaultHeadsUptoSaid : Prop := vaultHeadsUptoRow.holds Try.pinned (OpenSpec.upto vaultHeadsSpec)

/-- 'citadellaw10.RedoEncodes', WHERE WHAT IT READS IS OF BULK AT MOST 1048576: true; the input reads as it did. -/
def redoEncodesUptoRow : OpenClaim := { program := "ytcjncidahjneaaa", sum := "36ff8b91cdfe90acbbc6f5e491a68b5c7c7f83918e81f08d8774e91b1c6ec5c4", func := "citadel/citadellaw10.RedoEncodes", spec := "redoEncodes", unfollowed := true, recurses := true, apart := false, narrowed := true }
def RedoEncodesUptoSaid : Prop := redoEncodesUptoRow.holds Try.pinned (OpenSpec.upto redoEncodesSpec)

/-- 'citadellaw10.RedoDecodes', WHERE WHAT IT READS IS OF BULK AT MOST 1048576: true; the input reads as it did. -/
def redoDecodesUptoRow : OpenClaim := { program := "ytcjncidahjneaaa", sum := "36ff8b91cdfe90acbbc6f5e491a68b5c7c7f83918e81f08d8774e91b1c6ec5c4", func := "citadel/citadellaw10.RedoDecodes", spec := "redoDecodes", unfollowed := true, recurses := true, apart := false, narrowed := true }
def RedoDecodesUptoSaid : Prop := redoDecodesUptoRow.holds Try.pinned (OpenSpec.upto redoDecodesSpec)

/-- 'citadellaw10.RedoReturns', WHERE WHAT IT READS IS OF BULK AT MOST 1048576: true; the input reads as it did. -/
def redoReturnsUptoRow : OpenClaim := { program := "ytcjncidahjneaaa", sum := "36ff8b91cdfe90acbbc6f5e491a68b5c7c7f83918e81f08d8774e91b1c6ec5c4", func := "citadel/citadellaw10.RedoReturns", spec := "redoReturns", unfollowed := true, recurses := true, apart := false, narrowed := true }
def RedoReturnsUptoSaid : Prop := redoReturnsUptoRow.holds Try.pinned (OpenSpec.upto redoReturnsSpec)

/-- 'citadellaw10.RedoMixed', WHERE WHAT IT READS IS OF BULK AT MOST 1048576: true; the input reads as it did. -/
def redoMixedUptoRow : OpenClaim := { program := "ytcjncidahjneaaa", sum := "36ff8b91cdfe90acbbc6f5e491a68b5c7c7f83918e81f08d8774e91b1c6ec5c4", func := "citadel/citadellaw10.RedoMixed", spec := "redoMixed", unfollowed := true, recurses := true, apart := false, narrowed := true }
def RedoMixedUptoSaid : Prop := redoMixedUptoRow.holds Try.pinned (OpenSpec.upto redoMixedSpec)

/-- 'citadellaw10.RedoApart', WHERE WHAT IT READS IS OF BULK AT MOST 1048576: true; the input reads as it did. -/
def redoApartUptoRow : OpenClaim := { program := "ytcjncidahjneaaa", sum := "36ff8b91cdfe90acbbc6f5e491a68b5c7c7f83918e81f08d8774e91b1c6ec5c4", func := "citadel/citadellaw10.RedoApart", spec := "redoApart", unfollowed := true, recurses := true, apart := false, narrowed := true }
def RedoApartUptoSaid : Prop := redoApartUptoRow.holds Try.pinned (OpenSpec.upto redoApartSpec)

/-- 'citadellaw10.RedoMerge', WHERE WHAT IT READS IS OF BULK AT MOST 1048576: true; the input reads as it did. -/
def redoMergeUptoRow : OpenClaim := { program := "ytcjncidahjneaaa", sum := "36ff8b91cdfe90acbbc6f5e491a68b5c7c7f83918e81f08d8774e91b1c6ec5c4", func := "citadel/citadellaw10.RedoMerge", spec := "redoMerge", unfollowed := true, recurses := true, apart := false, narrowed := true }
def RedoMergeUptoSaid : Prop := redoMergeUptoRow.holds Try.pinned (OpenSpec.upto redoMergeSpec)

end Rows
end Go.Proofs.Ytcjncidahjneaaa
