/-
  No cell of these rows narrows 'for every input' (looked for: loops, veiled, ifaces, maps, wideKeys, modest, calm, conditions, laid).
  DERIVED. THE GIVEN ROWS OF THIS SEAT. 15 by the template 'for every input the law returns true; each argument reads behind the call as it read before'; 0 by the template 'total and deterministic' (their statements: YtkfbfgjfdjhjdaaTotals.lean).
  GIVEN WITH THE SEED: the statements are not yours to turn. If you find one false, say at which input.
  Laid BY PROGRAM, IN A SANDBOX (cutbox-rows.mjs): the forced cells as the released guide's own fill.sh prints them over the translation 8349d9c8e491708d… (all of the seat's roots in one cut). By AI agents, Wed Nov 11 2026. No macro, syntax, notation, axiom, sorry.
-/
import Derived.Test.YtkfbfgjfdjhjdaaChecked
import GoSem.Claim
import GoSem.ClaimJoined
import GoSem.ClaimMapViews
import Derived.JoinedTies
import Derived.KernelRfl
namespace Go.Proofs.Ytkfbfgjfdjhjdaa
/- THE CELL 'sum', in the pinned program and in every row, IS THE sha256 OF THE DUMP (.gsa) THAT YtkfbfgjfdjhjdaaProg.lean LOADS. Nothing in Lean hashes anything: it is a label: what it is worth is what the hold of that sum in a sandbox is worth. -/
noncomputable def Try.pinned : Pinned := { name := "ytkfbfgjfdjhjdaa", sum := "8349d9c8e491708de4aa6c122163cf8145ce08124144b11d59b10437a0147395", checked := Try.checked }
namespace Rows
def none {H : Type} : Left H := { results := [], args := [] }

/-- 'citadellaw10.RedoStart': WHATEVER THE INPUT: true; the input reads as it did. -/
def redoStartSpec : ChangeSpec := { name := "redoStart", fn := fun _ => fun
  | [d1, d2, d3] => { results := [.lit (.bool true)], args := [d1, d2, d3] }
  | _ => none }
def redoStartRow : OpenClaim := { program := "ytkfbfgjfdjhjdaa", sum := "8349d9c8e491708de4aa6c122163cf8145ce08124144b11d59b10437a0147395", func := "citadel/citadellaw10.RedoStart", spec := "redoStart", apart := false }
def RedoStartSaid : Prop := redoStartRow.holds Try.pinned (OpenSpec.ofChange redoStartSpec)

/-- ITS FALSE NEIGHBOUR: 'it returns false'. Refute it at one input. -/
def redoStartWrong : ChangeSpec := { name := "redoStart", fn := fun _ => fun
  | [d1, d2, d3] => { results := [.lit (.bool false)], args := [d1, d2, d3] }
  | _ => none }
def RedoStartWrongFalsely : Prop := redoStartRow.holds Try.pinned (OpenSpec.ofChange redoStartWrong)

/-- 'citadellaw03.CipherShift': WHATEVER THE INPUT: true; the input reads as it did. -/
def cipherShiftSpec : ChangeSpec := { name := "cipherShift", fn := fun _ => fun
  | [d] => { results := [.lit (.bool true)], args := [d] }
  | _ => none }
def cipherShiftRow : OpenClaim := { program := "ytkfbfgjfdjhjdaa", sum := "8349d9c8e491708de4aa6c122163cf8145ce08124144b11d59b10437a0147395", func := "citadel/citadellaw03.CipherShift", spec := "cipherShift", apart := false }
def CipherShiftSaid : Prop := cipherShiftRow.holds Try.pinned (OpenSpec.ofChange cipherShiftSpec)

/-- ITS FALSE NEIGHBOUR: 'it returns false'. Refute it at one input. -/
def cipherShiftWrong : ChangeSpec := { name := "cipherShift", fn := fun _ => fun
  | [d] => { results := [.lit (.bool false)], args := [d] }
  | _ => none }
def CipherShiftWrongFalsely : Prop := cipherShiftRow.holds Try.pinned (OpenSpec.ofChange cipherShiftWrong)

/-- 'citadellaw03.CipherMix': WHATEVER THE INPUT: true; the input reads as it did. -/
def cipherMixSpec : ChangeSpec := { name := "cipherMix", fn := fun _ => fun
  | [d] => { results := [.lit (.bool true)], args := [d] }
  | _ => none }
def cipherMixRow : OpenClaim := { program := "ytkfbfgjfdjhjdaa", sum := "8349d9c8e491708de4aa6c122163cf8145ce08124144b11d59b10437a0147395", func := "citadel/citadellaw03.CipherMix", spec := "cipherMix", apart := false }
def CipherMixSaid : Prop := cipherMixRow.holds Try.pinned (OpenSpec.ofChange cipherMixSpec)

/-- ITS FALSE NEIGHBOUR: 'it returns false'. Refute it at one input. -/
def cipherMixWrong : ChangeSpec := { name := "cipherMix", fn := fun _ => fun
  | [d] => { results := [.lit (.bool false)], args := [d] }
  | _ => none }
def CipherMixWrongFalsely : Prop := cipherMixRow.holds Try.pinned (OpenSpec.ofChange cipherMixWrong)

/-- 'citadellaw02.SboxSub': WHATEVER THE INPUT: true; the input reads as it did. -/
def sboxSubSpec : ChangeSpec := { name := "sboxSub", fn := fun _ => fun
  | [d] => { results := [.lit (.bool true)], args := [d] }
  | _ => none }
def sboxSubRow : OpenClaim := { program := "ytkfbfgjfdjhjdaa", sum := "8349d9c8e491708de4aa6c122163cf8145ce08124144b11d59b10437a0147395", func := "citadel/citadellaw02.SboxSub", spec := "sboxSub", apart := false }
def SboxSubSaid : Prop := sboxSubRow.holds Try.pinned (OpenSpec.ofChange sboxSubSpec)

/-- ITS FALSE NEIGHBOUR: 'it returns false'. Refute it at one input. -/
def sboxSubWrong : ChangeSpec := { name := "sboxSub", fn := fun _ => fun
  | [d] => { results := [.lit (.bool false)], args := [d] }
  | _ => none }
def SboxSubWrongFalsely : Prop := sboxSubRow.holds Try.pinned (OpenSpec.ofChange sboxSubWrong)

/-- 'citadellaw02.SboxBack': WHATEVER THE INPUT: true; the input reads as it did. -/
def sboxBackSpec : ChangeSpec := { name := "sboxBack", fn := fun _ => fun
  | [d] => { results := [.lit (.bool true)], args := [d] }
  | _ => none }
def sboxBackRow : OpenClaim := { program := "ytkfbfgjfdjhjdaa", sum := "8349d9c8e491708de4aa6c122163cf8145ce08124144b11d59b10437a0147395", func := "citadel/citadellaw02.SboxBack", spec := "sboxBack", inPlace := ["internal/bytealg.IndexByte"], apart := false }
def SboxBackSaid : Prop := sboxBackRow.holds Try.pinned (OpenSpec.ofChange sboxBackSpec)

/-- ITS FALSE NEIGHBOUR: 'it returns false'. Refute it at one input. -/
def sboxBackWrong : ChangeSpec := { name := "sboxBack", fn := fun _ => fun
  | [d] => { results := [.lit (.bool false)], args := [d] }
  | _ => none }
def SboxBackWrongFalsely : Prop := sboxBackRow.holds Try.pinned (OpenSpec.ofChange sboxBackWrong)

/-- 'citadellaw02.SboxTurns': WHATEVER THE INPUT: true; the input reads as it did. -/
def sboxTurnsSpec : ChangeSpec := { name := "sboxTurns", fn := fun _ => fun
  | [d] => { results := [.lit (.bool true)], args := [d] }
  | _ => none }
def sboxTurnsRow : OpenClaim := { program := "ytkfbfgjfdjhjdaa", sum := "8349d9c8e491708de4aa6c122163cf8145ce08124144b11d59b10437a0147395", func := "citadel/citadellaw02.SboxTurns", spec := "sboxTurns", inPlace := ["internal/bytealg.IndexByte"], apart := false }
def SboxTurnsSaid : Prop := sboxTurnsRow.holds Try.pinned (OpenSpec.ofChange sboxTurnsSpec)

/-- ITS FALSE NEIGHBOUR: 'it returns false'. Refute it at one input. -/
def sboxTurnsWrong : ChangeSpec := { name := "sboxTurns", fn := fun _ => fun
  | [d] => { results := [.lit (.bool false)], args := [d] }
  | _ => none }
def SboxTurnsWrongFalsely : Prop := sboxTurnsRow.holds Try.pinned (OpenSpec.ofChange sboxTurnsWrong)

/-- 'citadellaw02.SboxWords': WHATEVER THE INPUT: true; the input reads as it did. -/
def sboxWordsSpec : ChangeSpec := { name := "sboxWords", fn := fun _ => fun
  | [d] => { results := [.lit (.bool true)], args := [d] }
  | _ => none }
def sboxWordsRow : OpenClaim := { program := "ytkfbfgjfdjhjdaa", sum := "8349d9c8e491708de4aa6c122163cf8145ce08124144b11d59b10437a0147395", func := "citadel/citadellaw02.SboxWords", spec := "sboxWords", apart := false }
def SboxWordsSaid : Prop := sboxWordsRow.holds Try.pinned (OpenSpec.ofChange sboxWordsSpec)

/-- ITS FALSE NEIGHBOUR: 'it returns false'. Refute it at one input. -/
def sboxWordsWrong : ChangeSpec := { name := "sboxWords", fn := fun _ => fun
  | [d] => { results := [.lit (.bool false)], args := [d] }
  | _ => none }
def SboxWordsWrongFalsely : Prop := sboxWordsRow.holds Try.pinned (OpenSpec.ofChange sboxWordsWrong)

/-- 'citadellaw02.SboxConstants': WHATEVER THE INPUT: true; the input reads as it did. -/
def sboxConstantsSpec : ChangeSpec := { name := "sboxConstants", fn := fun _ => fun
  | [d] => { results := [.lit (.bool true)], args := [d] }
  | _ => none }
def sboxConstantsRow : OpenClaim := { program := "ytkfbfgjfdjhjdaa", sum := "8349d9c8e491708de4aa6c122163cf8145ce08124144b11d59b10437a0147395", func := "citadel/citadellaw02.SboxConstants", spec := "sboxConstants", unfollowed := true, recurses := true, apart := false }
def SboxConstantsSaid : Prop := sboxConstantsRow.holds Try.pinned (OpenSpec.ofChange sboxConstantsSpec)

/-- ITS FALSE NEIGHBOUR: 'it returns false'. Refute it at one input. -/
def sboxConstantsWrong : ChangeSpec := { name := "sboxConstants", fn := fun _ => fun
  | [d] => { results := [.lit (.bool false)], args := [d] }
  | _ => none }
def SboxConstantsWrongFalsely : Prop := sboxConstantsRow.holds Try.pinned (OpenSpec.ofChange sboxConstantsWrong)

/-- 'citadellaw03.CipherSums': WHATEVER THE INPUT: true; the input reads as it did. -/
def cipherSumsSpec : ChangeSpec := { name := "cipherSums", fn := fun _ => fun
  | [d] => { results := [.lit (.bool true)], args := [d] }
  | _ => none }
def cipherSumsRow : OpenClaim := { program := "ytkfbfgjfdjhjdaa", sum := "8349d9c8e491708de4aa6c122163cf8145ce08124144b11d59b10437a0147395", func := "citadel/citadellaw03.CipherSums", spec := "cipherSums", unfollowed := true, recurses := true, apart := false }
def CipherSumsSaid : Prop := cipherSumsRow.holds Try.pinned (OpenSpec.ofChange cipherSumsSpec)

/-- ITS FALSE NEIGHBOUR: 'it returns false'. Refute it at one input. -/
def cipherSumsWrong : ChangeSpec := { name := "cipherSums", fn := fun _ => fun
  | [d] => { results := [.lit (.bool false)], args := [d] }
  | _ => none }
def CipherSumsWrongFalsely : Prop := cipherSumsRow.holds Try.pinned (OpenSpec.ofChange cipherSumsWrong)

/-- 'citadellaw02.SboxBlocks': WHATEVER THE INPUT: true; the input reads as it did. -/
def sboxBlocksSpec : ChangeSpec := { name := "sboxBlocks", fn := fun _ => fun
  | [d] => { results := [.lit (.bool true)], args := [d] }
  | _ => none }
def sboxBlocksRow : OpenClaim := { program := "ytkfbfgjfdjhjdaa", sum := "8349d9c8e491708de4aa6c122163cf8145ce08124144b11d59b10437a0147395", func := "citadel/citadellaw02.SboxBlocks", spec := "sboxBlocks", inPlace := ["internal/bytealg.IndexByte"], apart := false }
def SboxBlocksSaid : Prop := sboxBlocksRow.holds Try.pinned (OpenSpec.ofChange sboxBlocksSpec)

/-- ITS FALSE NEIGHBOUR: 'it returns false'. Refute it at one input. -/
def sboxBlocksWrong : ChangeSpec := { name := "sboxBlocks", fn := fun _ => fun
  | [d] => { results := [.lit (.bool false)], args := [d] }
  | _ => none }
def SboxBlocksWrongFalsely : Prop := sboxBlocksRow.holds Try.pinned (OpenSpec.ofChange sboxBlocksWrong)

/-- 'citadellaw03.CipherEncrypts': WHATEVER THE INPUT: true; the input reads as it did. -/
def cipherEncryptsSpec : ChangeSpec := { name := "cipherEncrypts", fn := fun _ => fun
  | [d1, d2] => { results := [.lit (.bool true)], args := [d1, d2] }
  | _ => none }
def cipherEncryptsRow : OpenClaim := { program := "ytkfbfgjfdjhjdaa", sum := "8349d9c8e491708de4aa6c122163cf8145ce08124144b11d59b10437a0147395", func := "citadel/citadellaw03.CipherEncrypts", spec := "cipherEncrypts", unfollowed := true, recurses := true, apart := false }
def CipherEncryptsSaid : Prop := cipherEncryptsRow.holds Try.pinned (OpenSpec.ofChange cipherEncryptsSpec)

/-- ITS FALSE NEIGHBOUR: 'it returns false'. Refute it at one input. -/
def cipherEncryptsWrong : ChangeSpec := { name := "cipherEncrypts", fn := fun _ => fun
  | [d1, d2] => { results := [.lit (.bool false)], args := [d1, d2] }
  | _ => none }
def CipherEncryptsWrongFalsely : Prop := cipherEncryptsRow.holds Try.pinned (OpenSpec.ofChange cipherEncryptsWrong)

/-- 'citadellaw03.CipherParts': WHATEVER THE INPUT: true; the input reads as it did. -/
def cipherPartsSpec : ChangeSpec := { name := "cipherParts", fn := fun _ => fun
  | [d1, d2, d3] => { results := [.lit (.bool true)], args := [d1, d2, d3] }
  | _ => none }
def cipherPartsRow : OpenClaim := { program := "ytkfbfgjfdjhjdaa", sum := "8349d9c8e491708de4aa6c122163cf8145ce08124144b11d59b10437a0147395", func := "citadel/citadellaw03.CipherParts", spec := "cipherParts", unfollowed := true, recurses := true, apart := false }
def CipherPartsSaid : Prop := cipherPartsRow.holds Try.pinned (OpenSpec.ofChange cipherPartsSpec)

/-- ITS FALSE NEIGHBOUR: 'it returns false'. Refute it at one input. -/
def cipherPartsWrong : ChangeSpec := { name := "cipherParts", fn := fun _ => fun
  | [d1, d2, d3] => { results := [.lit (.bool false)], args := [d1, d2, d3] }
  | _ => none }
def CipherPartsWrongFalsely : Prop := cipherPartsRow.holds Try.pinned (OpenSpec.ofChange cipherPartsWrong)

/-- 'citadellaw03.CipherRounds': WHATEVER THE INPUT: true; the input reads as it did. -/
def cipherRoundsSpec : ChangeSpec := { name := "cipherRounds", fn := fun _ => fun
  | [d] => { results := [.lit (.bool true)], args := [d] }
  | _ => none }
def cipherRoundsRow : OpenClaim := { program := "ytkfbfgjfdjhjdaa", sum := "8349d9c8e491708de4aa6c122163cf8145ce08124144b11d59b10437a0147395", func := "citadel/citadellaw03.CipherRounds", spec := "cipherRounds", unfollowed := true, recurses := true, apart := false }
def CipherRoundsSaid : Prop := cipherRoundsRow.holds Try.pinned (OpenSpec.ofChange cipherRoundsSpec)

/-- ITS FALSE NEIGHBOUR: 'it returns false'. Refute it at one input. -/
def cipherRoundsWrong : ChangeSpec := { name := "cipherRounds", fn := fun _ => fun
  | [d] => { results := [.lit (.bool false)], args := [d] }
  | _ => none }
def CipherRoundsWrongFalsely : Prop := cipherRoundsRow.holds Try.pinned (OpenSpec.ofChange cipherRoundsWrong)

/-- 'citadellaw03.CipherTurns': WHATEVER THE INPUT: true; the input reads as it did. -/
def cipherTurnsSpec : ChangeSpec := { name := "cipherTurns", fn := fun _ => fun
  | [d1, d2] => { results := [.lit (.bool true)], args := [d1, d2] }
  | _ => none }
def cipherTurnsRow : OpenClaim := { program := "ytkfbfgjfdjhjdaa", sum := "8349d9c8e491708de4aa6c122163cf8145ce08124144b11d59b10437a0147395", func := "citadel/citadellaw03.CipherTurns", spec := "cipherTurns", inPlace := ["internal/bytealg.IndexByte"], unfollowed := true, recurses := true, apart := false }
def CipherTurnsSaid : Prop := cipherTurnsRow.holds Try.pinned (OpenSpec.ofChange cipherTurnsSpec)

/-- ITS FALSE NEIGHBOUR: 'it returns false'. Refute it at one input. -/
def cipherTurnsWrong : ChangeSpec := { name := "cipherTurns", fn := fun _ => fun
  | [d1, d2] => { results := [.lit (.bool false)], args := [d1, d2] }
  | _ => none }
def CipherTurnsWrongFalsely : Prop := cipherTurnsRow.holds Try.pinned (OpenSpec.ofChange cipherTurnsWrong)

/-- 'citadellaw03.CipherSeals': WHATEVER THE INPUT: true; the input reads as it did. -/
def cipherSealsSpec : ChangeSpec := { name := "cipherSeals", fn := fun _ => fun
  | [d1, d2] => { results := [.lit (.bool true)], args := [d1, d2] }
  | _ => none }
def cipherSealsRow : OpenClaim := { program := "ytkfbfgjfdjhjdaa", sum := "8349d9c8e491708de4aa6c122163cf8145ce08124144b11d59b10437a0147395", func := "citadel/citadellaw03.CipherSeals", spec := "cipherSeals", inPlace := ["internal/bytealg.IndexByte"], unfollowed := true, recurses := true, apart := false }
def CipherSealsSaid : Prop := cipherSealsRow.holds Try.pinned (OpenSpec.ofChange cipherSealsSpec)

/-- ITS FALSE NEIGHBOUR: 'it returns false'. Refute it at one input. -/
def cipherSealsWrong : ChangeSpec := { name := "cipherSeals", fn := fun _ => fun
  | [d1, d2] => { results := [.lit (.bool false)], args := [d1, d2] }
  | _ => none }
def CipherSealsWrongFalsely : Prop := cipherSealsRow.holds Try.pinned (OpenSpec.ofChange cipherSealsWrong)

/- THE SECOND FORM. 'bulk': how many values and letters a reading holds, each counted each time it is reached (what is shared counts as often as it is met; a slice's spare places count too). A statement '..UptoSaid' is the law's where the arguments, and the package variables that the reading takes, are together of bulk at most 1048576: NARROWER than '..Said'. Prove '..Said' where nothing that the law and all that it calls make is longer than what came in: it says more and counts as full. Else prove '..UptoSaid'. A law counts once. -/
mutual
def uptoBulk {H : Type} : DataW H → Nat
  | .lit (.string bytes) => bytes.length + 1
  | .lit _ => 1
  | .nil => 1
  | .ptr d => uptoBulk d + 1
  | .slice elems spare => uptoBulkAll elems + uptoBulkAll spare + 1
  | .agg parts => uptoBulkAll parts + 1
  | .iface _ d => uptoBulk d + 1
  | .map entries => uptoBulkEntries entries + 1
  | .held _ => 1
def uptoBulkAll {H : Type} : List (DataW H) → Nat
  | [] => 0
  | d :: r => uptoBulk d + uptoBulkAll r
def uptoBulkEntries {H : Type} : List (Lit × DataW H) → Nat
  | [] => 0
  | x :: r => uptoBulkEntry x + uptoBulkEntries r
def uptoBulkEntry {H : Type} : Lit × DataW H → Nat
  | (.string bytes, d) => bytes.length + uptoBulk d + 1
  | (_, d) => uptoBulk d + 1
 end
def uptoSmall : (H : Type) → List (DataW H) → Bool := fun _ ds => decide (uptoBulkAll ds ≤ 1048576)
def OpenSpec.upto (s : _root_.Go.ChangeSpec) : _root_.Go.OpenSpec := { _root_.Go.OpenSpec.ofChange s with cond := some uptoSmall }

/-- 'citadellaw10.RedoStart', WHERE WHAT IT READS IS OF BULK AT MOST 1048576: true; the input reads as it did. -/
def redoStartUptoRow : OpenClaim := { program := "ytkfbfgjfdjhjdaa", sum := "8349d9c8e491708de4aa6c122163cf8145ce08124144b11d59b10437a0147395", func := "citadel/citadellaw10.RedoStart", spec := "redoStart", apart := false, narrowed := true }
def RedoStartUptoSaid : Prop := redoStartUptoRow.holds Try.pinned (OpenSpec.upto redoStartSpec)

/-- 'citadellaw03.CipherShift', WHERE WHAT IT READS IS OF BULK AT MOST 1048576: true; the input reads as it did. -/
def cipherShiftUptoRow : OpenClaim := { program := "ytkfbfgjfdjhjdaa", sum := "8349d9c8e491708de4aa6c122163cf8145ce08124144b11d59b10437a0147395", func := "citadel/citadellaw03.CipherShift", spec := "cipherShift", apart := false, narrowed := true }
def CipherShiftUptoSaid : Prop := cipherShiftUptoRow.holds Try.pinned (OpenSpec.upto cipherShiftSpec)

/-- 'citadellaw03.CipherMix', WHERE WHAT IT READS IS OF BULK AT MOST 1048576: true; the input reads as it did. -/
def cipherMixUptoRow : OpenClaim := { program := "ytkfbfgjfdjhjdaa", sum := "8349d9c8e491708de4aa6c122163cf8145ce08124144b11d59b10437a0147395", func := "citadel/citadellaw03.CipherMix", spec := "cipherMix", apart := false, narrowed := true }
def CipherMixUptoSaid : Prop := cipherMixUptoRow.holds Try.pinned (OpenSpec.upto cipherMixSpec)

/-- 'citadellaw02.SboxSub', WHERE WHAT IT READS IS OF BULK AT MOST 1048576: true; the input reads as it did. -/
def sboxSubUptoRow : OpenClaim := { program := "ytkfbfgjfdjhjdaa", sum := "8349d9c8e491708de4aa6c122163cf8145ce08124144b11d59b10437a0147395", func := "citadel/citadellaw02.SboxSub", spec := "sboxSub", apart := false, narrowed := true }
def SboxSubUptoSaid : Prop := sboxSubUptoRow.holds Try.pinned (OpenSpec.upto sboxSubSpec)

/-- 'citadellaw02.SboxBack', WHERE WHAT IT READS IS OF BULK AT MOST 1048576: true; the input reads as it did. -/
def sboxBackUptoRow : OpenClaim := { program := "ytkfbfgjfdjhjdaa", sum := "8349d9c8e491708de4aa6c122163cf8145ce08124144b11d59b10437a0147395", func := "citadel/citadellaw02.SboxBack", spec := "sboxBack", inPlace := ["internal/bytealg.IndexByte"], apart := false, narrowed := true }
def SboxBackUptoSaid : Prop := sboxBackUptoRow.holds Try.pinned (OpenSpec.upto sboxBackSpec)

/-- 'citadellaw02.SboxTurns', WHERE WHAT IT READS IS OF BULK AT MOST 1048576: true; the input reads as it did. -/
def sboxTurnsUptoRow : OpenClaim := { program := "ytkfbfgjfdjhjdaa", sum := "8349d9c8e491708de4aa6c122163cf8145ce08124144b11d59b10437a0147395", func := "citadel/citadellaw02.SboxTurns", spec := "sboxTurns", inPlace := ["internal/bytealg.IndexByte"], apart := false, narrowed := true }
def SboxTurnsUptoSaid : Prop := sboxTurnsUptoRow.holds Try.pinned (OpenSpec.upto sboxTurnsSpec)

/-- 'citadellaw02.SboxWords', WHERE WHAT IT READS IS OF BULK AT MOST 1048576: true; the input reads as it did. -/
def sboxWordsUptoRow : OpenClaim := { program := "ytkfbfgjfdjhjdaa", sum := "8349d9c8e491708de4aa6c122163cf8145ce08124144b11d59b10437a0147395", func := "citadel/citadellaw02.SboxWords", spec := "sboxWords", apart := false, narrowed := true }
def SboxWordsUptoSaid : Prop := sboxWordsUptoRow.holds Try.pinned (OpenSpec.upto sboxWordsSpec)

/-- 'citadellaw02.SboxConstants', WHERE WHAT IT READS IS OF BULK AT MOST 1048576: true; the input reads as it did. -/
def sboxConstantsUptoRow : OpenClaim := { program := "ytkfbfgjfdjhjdaa", sum := "8349d9c8e491708de4aa6c122163cf8145ce08124144b11d59b10437a0147395", func := "citadel/citadellaw02.SboxConstants", spec := "sboxConstants", unfollowed := true, recurses := true, apart := false, narrowed := true }
def SboxConstantsUptoSaid : Prop := sboxConstantsUptoRow.holds Try.pinned (OpenSpec.upto sboxConstantsSpec)

/-- 'citadellaw03.CipherSums', WHERE WHAT IT READS IS OF BULK AT MOST 1048576: true; the input reads as it did. -/
def cipherSumsUptoRow : OpenClaim := { program := "ytkfbfgjfdjhjdaa", sum := "8349d9c8e491708de4aa6c122163cf8145ce08124144b11d59b10437a0147395", func := "citadel/citadellaw03.CipherSums", spec := "cipherSums", unfollowed := true, recurses := true, apart := false, narrowed := true }
def CipherSumsUptoSaid : Prop := cipherSumsUptoRow.holds Try.pinned (OpenSpec.upto cipherSumsSpec)

/-- 'citadellaw02.SboxBlocks', WHERE WHAT IT READS IS OF BULK AT MOST 1048576: true; the input reads as it did. -/
def sboxBlocksUptoRow : OpenClaim := { program := "ytkfbfgjfdjhjdaa", sum := "8349d9c8e491708de4aa6c122163cf8145ce08124144b11d59b10437a0147395", func := "citadel/citadellaw02.SboxBlocks", spec := "sboxBlocks", inPlace := ["internal/bytealg.IndexByte"], apart := false, narrowed := true }
def SboxBlocksUptoSaid : Prop := sboxBlocksUptoRow.holds Try.pinned (OpenSpec.upto sboxBlocksSpec)

/-- 'citadellaw03.CipherEncrypts', WHERE WHAT IT READS IS OF BULK AT MOST 1048576: true; the input reads as it did. -/
def cipherEncryptsUptoRow : OpenClaim := { program := "ytkfbfgjfdjhjdaa", sum := "8349d9c8e491708de4aa6c122163cf8145ce08124144b11d59b10437a0147395", func := "citadel/citadellaw03.CipherEncrypts", spec := "cipherEncrypts", unfollowed := true, recurses := true, apart := false, narrowed := true }
def CipherEncryptsUptoSaid : Prop := cipherEncryptsUptoRow.holds Try.pinned (OpenSpec.upto cipherEncryptsSpec)

/-- 'citadellaw03.CipherParts', WHERE WHAT IT READS IS OF BULK AT MOST 1048576: true; the input reads as it did. -/
def cipherPartsUptoRow : OpenClaim := { program := "ytkfbfgjfdjhjdaa", sum := "8349d9c8e491708de4aa6c122163cf8145ce08124144b11d59b10437a0147395", func := "citadel/citadellaw03.CipherParts", spec := "cipherParts", unfollowed := true, recurses := true, apart := false, narrowed := true }
def CipherPartsUptoSaid : Prop := cipherPartsUptoRow.holds Try.pinned (OpenSpec.upto cipherPartsSpec)

/-- 'citadellaw03.CipherRounds', WHERE WHAT IT READS IS OF BULK AT MOST 1048576: true; the input reads as it did. -/
def cipherRoundsUptoRow : OpenClaim := { program := "ytkfbfgjfdjhjdaa", sum := "8349d9c8e491708de4aa6c122163cf8145ce08124144b11d59b10437a0147395", func := "citadel/citadellaw03.CipherRounds", spec := "cipherRounds", unfollowed := true, recurses := true, apart := false, narrowed := true }
def CipherRoundsUptoSaid : Prop := cipherRoundsUptoRow.holds Try.pinned (OpenSpec.upto cipherRoundsSpec)

/-- 'citadellaw03.CipherTurns', WHERE WHAT IT READS IS OF BULK AT MOST 1048576: true; the input reads as it did. -/
def cipherTurnsUptoRow : OpenClaim := { program := "ytkfbfgjfdjhjdaa", sum := "8349d9c8e491708de4aa6c122163cf8145ce08124144b11d59b10437a0147395", func := "citadel/citadellaw03.CipherTurns", spec := "cipherTurns", inPlace := ["internal/bytealg.IndexByte"], unfollowed := true, recurses := true, apart := false, narrowed := true }
def CipherTurnsUptoSaid : Prop := cipherTurnsUptoRow.holds Try.pinned (OpenSpec.upto cipherTurnsSpec)

/-- 'citadellaw03.CipherSeals', WHERE WHAT IT READS IS OF BULK AT MOST 1048576: true; the input reads as it did. -/
def cipherSealsUptoRow : OpenClaim := { program := "ytkfbfgjfdjhjdaa", sum := "8349d9c8e491708de4aa6c122163cf8145ce08124144b11d59b10437a0147395", func := "citadel/citadellaw03.CipherSeals", spec := "cipherSeals", inPlace := ["internal/bytealg.IndexByte"], unfollowed := true, recurses := true, apart := false, narrowed := true }
def CipherSealsUptoSaid : Prop := cipherSealsUptoRow.holds Try.pinned (OpenSpec.upto cipherSealsSpec)

end Rows
end Go.Proofs.Ytkfbfgjfdjhjdaa
