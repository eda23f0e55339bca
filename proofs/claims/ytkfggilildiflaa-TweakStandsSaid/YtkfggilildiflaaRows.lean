/-
  No cell of these rows narrows 'for every input' (looked for: loops, veiled, ifaces, maps, wideKeys, modest, calm, conditions, laid).
  DERIVED. THE GIVEN ROWS OF THIS SEAT. 8 by the template 'for every input the law returns true; each argument reads behind the call as it read before'; 0 by the template 'total and deterministic' (their statements: YtkfggilildiflaaTotals.lean).
  GIVEN WITH THE SEED: the statements are not yours to turn. If you find one false, say at which input.
  Laid BY PROGRAM, IN A SANDBOX (cutbox-rows.mjs): the forced cells as the released guide's own fill.sh prints them over the translation b24a8f299a0b7c7b… (all of the seat's roots in one cut). By AI agents, Wed Nov 11 2026. No macro, syntax, notation, axiom, sorry.
-/
import Derived.Test.YtkfggilildiflaaChecked
import GoSem.Claim
import GoSem.ClaimJoined
import GoSem.ClaimMapViews
import Derived.JoinedTies
import Derived.KernelRfl
namespace Go.Proofs.Ytkfggilildiflaa
/- THE CELL 'sum', in the pinned program and in every row, IS THE sha256 OF THE DUMP (.gsa) THAT YtkfggilildiflaaProg.lean LOADS. Nothing in Lean hashes anything: it is a label: what it is worth is what the hold of that sum in a sandbox is worth. -/
noncomputable def Try.pinned : Pinned := { name := "ytkfggilildiflaa", sum := "b24a8f299a0b7c7b01614151a46a7c7d565ffd729856f20a38408157e153d2ce", checked := Try.checked }
namespace Rows
def none {H : Type} : Left H := { results := [], args := [] }

/-- 'citadellaw06.TweakHides': WHATEVER THE INPUT: true; the input reads as it did. -/
def tweakHidesSpec : ChangeSpec := { name := "tweakHides", fn := fun _ => fun
  | [d1, d2, d3] => { results := [.lit (.bool true)], args := [d1, d2, d3] }
  | _ => none }
def tweakHidesRow : OpenClaim := { program := "ytkfggilildiflaa", sum := "b24a8f299a0b7c7b01614151a46a7c7d565ffd729856f20a38408157e153d2ce", func := "citadel/citadellaw06.TweakHides", spec := "tweakHides", unfollowed := true, recurses := true, apart := false }
def TweakHidesSaid : Prop := tweakHidesRow.holds Try.pinned (OpenSpec.ofChange tweakHidesSpec)

/-- ITS FALSE NEIGHBOUR: 'it returns false'. Refute it at one input. -/
def tweakHidesWrong : ChangeSpec := { name := "tweakHides", fn := fun _ => fun
  | [d1, d2, d3] => { results := [.lit (.bool false)], args := [d1, d2, d3] }
  | _ => none }
def TweakHidesWrongFalsely : Prop := tweakHidesRow.holds Try.pinned (OpenSpec.ofChange tweakHidesWrong)

/-- 'citadellaw06.TweakStands': WHATEVER THE INPUT: true; the input reads as it did. -/
def tweakStandsSpec : ChangeSpec := { name := "tweakStands", fn := fun _ => fun
  | [d] => { results := [.lit (.bool true)], args := [d] }
  | _ => none }
def tweakStandsRow : OpenClaim := { program := "ytkfggilildiflaa", sum := "b24a8f299a0b7c7b01614151a46a7c7d565ffd729856f20a38408157e153d2ce", func := "citadel/citadellaw06.TweakStands", spec := "tweakStands", unfollowed := true, recurses := true, apart := false }
def TweakStandsSaid : Prop := tweakStandsRow.holds Try.pinned (OpenSpec.ofChange tweakStandsSpec)

/-- ITS FALSE NEIGHBOUR: 'it returns false'. Refute it at one input. -/
def tweakStandsWrong : ChangeSpec := { name := "tweakStands", fn := fun _ => fun
  | [d] => { results := [.lit (.bool false)], args := [d] }
  | _ => none }
def TweakStandsWrongFalsely : Prop := tweakStandsRow.holds Try.pinned (OpenSpec.ofChange tweakStandsWrong)

/-- 'citadellaw06.TweakShows': WHATEVER THE INPUT: true; the input reads as it did. -/
def tweakShowsSpec : ChangeSpec := { name := "tweakShows", fn := fun _ => fun
  | [d1, d2, d3] => { results := [.lit (.bool true)], args := [d1, d2, d3] }
  | _ => none }
def tweakShowsRow : OpenClaim := { program := "ytkfggilildiflaa", sum := "b24a8f299a0b7c7b01614151a46a7c7d565ffd729856f20a38408157e153d2ce", func := "citadel/citadellaw06.TweakShows", spec := "tweakShows", inPlace := ["internal/bytealg.IndexByte"], unfollowed := true, recurses := true, apart := false }
def TweakShowsSaid : Prop := tweakShowsRow.holds Try.pinned (OpenSpec.ofChange tweakShowsSpec)

/-- ITS FALSE NEIGHBOUR: 'it returns false'. Refute it at one input. -/
def tweakShowsWrong : ChangeSpec := { name := "tweakShows", fn := fun _ => fun
  | [d1, d2, d3] => { results := [.lit (.bool false)], args := [d1, d2, d3] }
  | _ => none }
def TweakShowsWrongFalsely : Prop := tweakShowsRow.holds Try.pinned (OpenSpec.ofChange tweakShowsWrong)

/-- 'citadellaw07.WrapWraps': WHATEVER THE INPUT: true; the input reads as it did. -/
def wrapWrapsSpec : ChangeSpec := { name := "wrapWraps", fn := fun _ => fun
  | [d1, d2] => { results := [.lit (.bool true)], args := [d1, d2] }
  | _ => none }
def wrapWrapsRow : OpenClaim := { program := "ytkfggilildiflaa", sum := "b24a8f299a0b7c7b01614151a46a7c7d565ffd729856f20a38408157e153d2ce", func := "citadel/citadellaw07.WrapWraps", spec := "wrapWraps", unfollowed := true, recurses := true, apart := false }
def WrapWrapsSaid : Prop := wrapWrapsRow.holds Try.pinned (OpenSpec.ofChange wrapWrapsSpec)

/-- ITS FALSE NEIGHBOUR: 'it returns false'. Refute it at one input. -/
def wrapWrapsWrong : ChangeSpec := { name := "wrapWraps", fn := fun _ => fun
  | [d1, d2] => { results := [.lit (.bool false)], args := [d1, d2] }
  | _ => none }
def WrapWrapsWrongFalsely : Prop := wrapWrapsRow.holds Try.pinned (OpenSpec.ofChange wrapWrapsWrong)

/-- 'citadellaw07.WrapUnwraps': WHATEVER THE INPUT: true; the input reads as it did. -/
def wrapUnwrapsSpec : ChangeSpec := { name := "wrapUnwraps", fn := fun _ => fun
  | [d1, d2] => { results := [.lit (.bool true)], args := [d1, d2] }
  | _ => none }
def wrapUnwrapsRow : OpenClaim := { program := "ytkfggilildiflaa", sum := "b24a8f299a0b7c7b01614151a46a7c7d565ffd729856f20a38408157e153d2ce", func := "citadel/citadellaw07.WrapUnwraps", spec := "wrapUnwraps", inPlace := ["internal/bytealg.IndexByte"], unfollowed := true, recurses := true, apart := false }
def WrapUnwrapsSaid : Prop := wrapUnwrapsRow.holds Try.pinned (OpenSpec.ofChange wrapUnwrapsSpec)

/-- ITS FALSE NEIGHBOUR: 'it returns false'. Refute it at one input. -/
def wrapUnwrapsWrong : ChangeSpec := { name := "wrapUnwraps", fn := fun _ => fun
  | [d1, d2] => { results := [.lit (.bool false)], args := [d1, d2] }
  | _ => none }
def WrapUnwrapsWrongFalsely : Prop := wrapUnwrapsRow.holds Try.pinned (OpenSpec.ofChange wrapUnwrapsWrong)

/-- 'citadellaw07.WrapBack': WHATEVER THE INPUT: true; the input reads as it did. -/
def wrapBackSpec : ChangeSpec := { name := "wrapBack", fn := fun _ => fun
  | [d1, d2] => { results := [.lit (.bool true)], args := [d1, d2] }
  | _ => none }
def wrapBackRow : OpenClaim := { program := "ytkfggilildiflaa", sum := "b24a8f299a0b7c7b01614151a46a7c7d565ffd729856f20a38408157e153d2ce", func := "citadel/citadellaw07.WrapBack", spec := "wrapBack", inPlace := ["internal/bytealg.IndexByte"], unfollowed := true, recurses := true, apart := false }
def WrapBackSaid : Prop := wrapBackRow.holds Try.pinned (OpenSpec.ofChange wrapBackSpec)

/-- ITS FALSE NEIGHBOUR: 'it returns false'. Refute it at one input. -/
def wrapBackWrong : ChangeSpec := { name := "wrapBack", fn := fun _ => fun
  | [d1, d2] => { results := [.lit (.bool false)], args := [d1, d2] }
  | _ => none }
def WrapBackWrongFalsely : Prop := wrapBackRow.holds Try.pinned (OpenSpec.ofChange wrapBackWrong)

/-- 'citadellaw07.WrapSpoilt': WHATEVER THE INPUT: true; the input reads as it did. -/
def wrapSpoiltSpec : ChangeSpec := { name := "wrapSpoilt", fn := fun _ => fun
  | [d] => { results := [.lit (.bool true)], args := [d] }
  | _ => none }
def wrapSpoiltRow : OpenClaim := { program := "ytkfggilildiflaa", sum := "b24a8f299a0b7c7b01614151a46a7c7d565ffd729856f20a38408157e153d2ce", func := "citadel/citadellaw07.WrapSpoilt", spec := "wrapSpoilt", inPlace := ["internal/bytealg.IndexByte"], unfollowed := true, recurses := true, apart := false }
def WrapSpoiltSaid : Prop := wrapSpoiltRow.holds Try.pinned (OpenSpec.ofChange wrapSpoiltSpec)

/-- ITS FALSE NEIGHBOUR: 'it returns false'. Refute it at one input. -/
def wrapSpoiltWrong : ChangeSpec := { name := "wrapSpoilt", fn := fun _ => fun
  | [d] => { results := [.lit (.bool false)], args := [d] }
  | _ => none }
def WrapSpoiltWrongFalsely : Prop := wrapSpoiltRow.holds Try.pinned (OpenSpec.ofChange wrapSpoiltWrong)

/-- 'citadellaw07.WrapSteps': WHATEVER THE INPUT: true; the input reads as it did. -/
def wrapStepsSpec : ChangeSpec := { name := "wrapSteps", fn := fun _ => fun
  | [d1, d2] => { results := [.lit (.bool true)], args := [d1, d2] }
  | _ => none }
def wrapStepsRow : OpenClaim := { program := "ytkfggilildiflaa", sum := "b24a8f299a0b7c7b01614151a46a7c7d565ffd729856f20a38408157e153d2ce", func := "citadel/citadellaw07.WrapSteps", spec := "wrapSteps", inPlace := ["internal/bytealg.IndexByte"], unfollowed := true, recurses := true, apart := false }
def WrapStepsSaid : Prop := wrapStepsRow.holds Try.pinned (OpenSpec.ofChange wrapStepsSpec)

/-- ITS FALSE NEIGHBOUR: 'it returns false'. Refute it at one input. -/
def wrapStepsWrong : ChangeSpec := { name := "wrapSteps", fn := fun _ => fun
  | [d1, d2] => { results := [.lit (.bool false)], args := [d1, d2] }
  | _ => none }
def WrapStepsWrongFalsely : Prop := wrapStepsRow.holds Try.pinned (OpenSpec.ofChange wrapStepsWrong)

/- THE SECOND FORM. 'bulk': how many values and letters a reading holds, each counted each time it is reached (what is shared counts as often as it is met; a slice's spare places count too). A statement '..UptoSaid' is the law's where the arguments, and the package variables that the reading takes, are together of bulk at most 1048576: NARROWER than '..Said'. Prove '..Said' where nothing that the law and all that it calls make is longer than what came in: it says more and counts as full. Else prove '..UptoSaid'. A law counts once. -/
mutual
def uptoBulk {H : Type} : DataW H → Nat
  | .lit (.string bytes) => bytes.length + 1
  | .lit _ => 1
  | .nil => 1
  | .ptr d => uptoBulk d + 1
  | .slice elems spare => uptoBulkAll elems + uptoBulkAll spare + 1
  | .agg parts => uptoBulkAll parts + 1
  | .iface _ d => uptoBulk d + 1
  | .map entries => uptoBulkEntries entries + 1
  | .held _ => 1
def uptoBulkAll {H : Type} : List (DataW H) → Nat
  | [] => 0
  | d :: r => uptoBulk d + uptoBulkAll r
def uptoBulkEntries {H : Type} : List (Lit × DataW H) → Nat
  | [] => 0
  | x :: r => uptoBulkEntry x + uptoBulkEntries r
def uptoBulkEntry {H : Type} : Lit × DataW H → Nat
  | (.string bytes, d) => bytes.length + uptoBulk d + 1
  | (_, d) => uptoBulk d + 1
 end
def uptoSmall : (H : Type) → List (DataW H) → Bool := fun _ ds => decide (uptoBulkAll ds ≤ 1048576)
def OpenSpec.upto (s : _root_.Go.ChangeSpec) : _root_.Go.OpenSpec := { _root_.Go.OpenSpec.ofChange s with cond := some uptoSmall }

/-- 'citadellaw06.TweakHides', WHERE WHAT IT READS IS OF BULK AT MOST 1048576: true; the input reads as it did. -/
def tweakHidesUptoRow : OpenClaim := { program := "ytkfggilildiflaa", sum := "b24a8f299a0b7c7b01614151a46a7c7d565ffd729856f20a38408157e153d2ce", func := "citadel/citadellaw06.TweakHides", spec := "tweakHides", unfollowed := true, recurses := true, apart := false, narrowed := true }
def TweakHidesUptoSaid : Prop := tweakHidesUptoRow.holds Try.pinned (OpenSpec.upto tweakHidesSpec)

/-- 'citadellaw06.TweakStands', WHERE WHAT IT READS IS OF BULK AT MOST 1048576: true; the input reads as it did. -/
def tweakStandsUptoRow : OpenClaim := { program := "ytkfggilildiflaa", sum := "b24a8f299a0b7c7b01614151a46a7c7d565ffd729856f20a38408157e153d2ce", func := "citadel/citadellaw06.TweakStands", spec := "tweakStands", unfollowed := true, recurses := true, apart := false, narrowed := true }
def TweakStandsUptoSaid : Prop := tweakStandsUptoRow.holds Try.pinned (OpenSpec.upto tweakStandsSpec)

/-- 'citadellaw06.TweakShows', WHERE WHAT IT READS IS OF BULK AT MOST 1048576: true; the input reads as it did. -/
def tweakShowsUptoRow : OpenClaim := { program := "ytkfggilildiflaa", sum := "b24a8f299a0b7c7b01614151a46a7c7d565ffd729856f20a38408157e153d2ce", func := "citadel/citadellaw06.TweakShows", spec := "tweakShows", inPlace := ["internal/bytealg.IndexByte"], unfollowed := true, recurses := true, apart := false, narrowed := true }
def TweakShowsUptoSaid : Prop := tweakShowsUptoRow.holds Try.pinned (OpenSpec.upto tweakShowsSpec)

/-- 'citadellaw07.WrapWraps', WHERE WHAT IT READS IS OF BULK AT MOST 1048576: true; the input reads as it did. -/
def wrapWrapsUptoRow : OpenClaim := { program := "ytkfggilildiflaa", sum := "b24a8f299a0b7c7b01614151a46a7c7d565ffd729856f20a38408157e153d2ce", func := "citadel/citadellaw07.WrapWraps", spec := "wrapWraps", unfollowed := true, recurses := true, apart := false, narrowed := true }
def WrapWrapsUptoSaid : Prop := wrapWrapsUptoRow.holds Try.pinned (OpenSpec.upto wrapWrapsSpec)

/-- 'citadellaw07.WrapUnwraps', WHERE WHAT IT READS IS OF BULK AT MOST 1048576: true; the input reads as it did. -/
def wrapUnwrapsUptoRow : OpenClaim := { program := "ytkfggilildiflaa", sum := "b24a8f299a0b7c7b01614151a46a7c7d565ffd729856f20a38408157e153d2ce", func := "citadel/citadellaw07.WrapUnwraps", spec := "wrapUnwraps", inPlace := ["internal/bytealg.IndexByte"], unfollowed := true, recurses := true, apart := false, narrowed := true }
def WrapUnwrapsUptoSaid : Prop := wrapUnwrapsUptoRow.holds Try.pinned (OpenSpec.upto wrapUnwrapsSpec)

/-- 'citadellaw07.WrapBack', WHERE WHAT IT READS IS OF BULK AT MOST 1048576: true; the input reads as it did. -/
def wrapBackUptoRow : OpenClaim := { program := "ytkfggilildiflaa", sum := "b24a8f299a0b7c7b01614151a46a7c7d565ffd729856f20a38408157e153d2ce", func := "citadel/citadellaw07.WrapBack", spec := "wrapBack", inPlace := ["internal/bytealg.IndexByte"], unfollowed := true, recurses := true, apart := false, narrowed := true }
def WrapBackUptoSaid : Prop := wrapBackUptoRow.holds Try.pinned (OpenSpec.upto wrapBackSpec)

/-- 'citadellaw07.WrapSpoilt', WHERE WHAT IT READS IS OF BULK AT MOST 1048576: true; the input reads as it did. -/
def wrapSpoiltUptoRow : OpenClaim := { program := "ytkfggilildiflaa", sum := "b24a8f299a0b7c7b01614151a46a7c7d565ffd729856f20a38408157e153d2ce", func := "citadel/citadellaw07.WrapSpoilt", spec := "wrapSpoilt", inPlace := ["internal/bytealg.IndexByte"], unfollowed := true, recurses := true, apart := false, narrowed := true }
def WrapSpoiltUptoSaid : Prop := wrapSpoiltUptoRow.holds Try.pinned (OpenSpec.upto wrapSpoiltSpec)

/-- 'citadellaw07.WrapSteps', WHERE WHAT IT READS IS OF BULK AT MOST 1048576: true; the input reads as it did. -/
def wrapStepsUptoRow : OpenClaim := { program := "ytkfggilildiflaa", sum := "b24a8f299a0b7c7b01614151a46a7c7d565ffd729856f20a38408157e153d2ce", func := "citadel/citadellaw07.WrapSteps", spec := "wrapSteps", inPlace := ["internal/bytealg.IndexByte"], unfollowed := true, recurses := true, apart := false, narrowed := true }
def WrapStepsUptoSaid : Prop := wrapStepsUptoRow.holds Try.pinned (OpenSpec.upto wrapStepsSpec)

end Rows
end Go.Proofs.Ytkfggilildiflaa
