/-
  Laws that the claims of this seat use, of several texts in one: Sh0, Sh1, PostC, Sh2, Sh4, Sh5, CopyD, Sh3. No condition of their own.
-/
import Derived.Test.YtcjncidahjneaaaJD0

namespace Go.Proofs.Ytcjncidahjneaaa
open Go.ChangeShapes Go.WideShapes Go.ChangeAt Go.RowKit
abbrev W32 := BitVec 32
def wv (x : W32) : Value := .int .u32 (x.toNat : Int)
def wvs (l : List W32) : Array Value := (l.map wv).toArray
/-! ### The words of a piece -/
/-! ### Rounds -/
structure S8 where
  (a b c d e f g h : W32)
/-! ### A text's digest, and its tag -/
/-! ### Rotations and shifts by dividing -/
end Go.Proofs.Ytcjncidahjneaaa

namespace Go.Proofs.Ytcjncidahjneaaa
open Go.ChangeShapes Go.WideShapes Go.ChangeAt Go.RowKit
attribute [local irreducible] wpList wpListIn Oper.quietAt wpM
section
variable {P : Program} {o : Oper} {a : Act} {w : World} {t t' : TypeId} {x y : Operand} {p q : W32}
end
end Go.Proofs.Ytcjncidahjneaaa

namespace Go.Proofs.Ytcjncidahjneaaa
open Go.ChangeShapes Go.WideShapes Go.ChangeAt Go.RowKit
end Go.Proofs.Ytcjncidahjneaaa

namespace Go.Proofs.Ytcjncidahjneaaa
open Go.ChangeShapes Go.WideShapes Go.ChangeAt Go.RowKit
attribute [local irreducible] wpList wpListIn Oper.quietAt wpM
def zw (n : Nat) : List W32 := List.replicate n 0
instance : GoF Try.prog 98 := ⟨by kernel_rfl⟩
instance : RowT Try.prog 119 64 := ⟨by kernel_rfl, by kernel_rfl⟩
instance : ArT Try.prog 119 64 1 := ⟨by kernel_rfl⟩
instance : ZeroT Try.prog 119 (wvs (zw 64)) := ⟨by kernel_rfl⟩
instance : RowT Try.prog 120 8 := ⟨by kernel_rfl, by kernel_rfl⟩
instance : ArT Try.prog 120 8 1 := ⟨by kernel_rfl⟩
instance : ZeroT Try.prog 120 (wvs (zw 8)) := ⟨by kernel_rfl⟩
instance : AtT Try.prog 120 1 ((zw 8).map wv) := ⟨by kernel_rfl⟩
end Go.Proofs.Ytcjncidahjneaaa

namespace Go.Proofs.Ytcjncidahjneaaa
open Go.ChangeShapes Go.WideShapes Go.ChangeAt Go.RowKit
attribute [local irreducible] wpList wpListIn Oper.quietAt wpM
instance instSh4_1 : GoF Try.prog 85 := ⟨by kernel_rfl⟩
instance (priority := high) zeroT64 : ZeroT Try.prog 119 (wvs (zw 64)) := ⟨by kernel_rfl⟩
end Go.Proofs.Ytcjncidahjneaaa

namespace Go.Proofs.Ytcjncidahjneaaa
open Go.ChangeShapes Go.WideShapes Go.ChangeAt Go.RowKit
attribute [local irreducible] wpList wpListIn Oper.quietAt wpM
instance instSh5_1 : GoF Try.prog 77 := ⟨by kernel_rfl⟩
instance instSh5_2 : GoF Try.prog 64 := ⟨by kernel_rfl⟩
end Go.Proofs.Ytcjncidahjneaaa

namespace Go.Proofs.Ytcjncidahjneaaa
open Go.RowKit
attribute [local irreducible] wpList wpListIn
section
variable {P : Program} {ops : Array Oper} {W : List Oper → Act → World → Prop} {o : Oper} {rest : List Oper} {a : Act} {w : World} {v : Value} {B : Nat} {H : World → List Blk → Prop} {L : List Blk}
end
end Go.Proofs.Ytcjncidahjneaaa

namespace Go.Proofs.Ytcjncidahjneaaa
open Go.ChangeShapes Go.WideShapes Go.ChangeAt Go.RowKit
attribute [local irreducible] wpList wpListIn Oper.quietAt wpM
end Go.Proofs.Ytcjncidahjneaaa
