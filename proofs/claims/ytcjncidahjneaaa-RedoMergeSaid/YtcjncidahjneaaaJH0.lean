/-
  Laws that the claims of this seat use, of several texts in one: Field, Mix, RefMulP, RefMul, RefMix, MulP, Xor7, Sh14, Sh15, Sh16, Sh17. No condition of their own.
-/
import Derived.Test.YtcjncidahjneaaaJG0

namespace Go.Proofs.Ytcjncidahjneaaa
open Go.ChangeShapes Go.WideShapes Go.ChangeAt Go.RowKit

def twiceB (b : UInt8) : UInt8 := (b <<< 1) ^^^ ((27 : UInt8) * (b >>> 7))
def mulGo : Nat → UInt8 → UInt8 → UInt8 → UInt8
  | 0, _, _, out => out
  | n + 1, a, b, out => if b = 0 then out else mulGo n (twiceB a) (b >>> 1) (out ^^^ a * (b &&& 1))
def mulB (a b : UInt8) : UInt8 := mulGo 8 a b 0

end Go.Proofs.Ytcjncidahjneaaa

namespace Go.Proofs.Ytcjncidahjneaaa
open Go.ChangeShapes Go.WideShapes Go.ChangeAt Go.RowKit

end Go.Proofs.Ytcjncidahjneaaa

namespace Go.Proofs.Ytcjncidahjneaaa
open Go.ChangeShapes Go.WideShapes Go.ChangeAt Go.RowKit

/-- A bit of a number. -/
def tb (x i : Nat) : Nat := x / 2 ^ i % 2
/-- Fifteen bits as cells. -/
def pl (P : Nat) : List Value := (List.range 15).map fun j => .int .i64 (tb P j)
/-! ### It is the field's own product: by lines of the second number's bits -/
end Go.Proofs.Ytcjncidahjneaaa

namespace Go.Proofs.Ytcjncidahjneaaa
open Go.ChangeShapes Go.WideShapes Go.ChangeAt Go.RowKit

attribute [local irreducible] tb
end Go.Proofs.Ytcjncidahjneaaa

namespace Go.Proofs.Ytcjncidahjneaaa
open Go.ChangeShapes Go.WideShapes Go.ChangeAt Go.RowKit

end Go.Proofs.Ytcjncidahjneaaa

namespace Go.Proofs.Ytcjncidahjneaaa
open Go.ChangeShapes Go.WideShapes Go.ChangeAt Go.RowKit

theorem mul1' : ∀ n : Fin 256, mulB (UInt8.ofNat n) 1 = UInt8.ofNat n := by decide +kernel
theorem mul_one (x : UInt8) : mulB x 1 = x := by simpa using mul1' ⟨x.toNat, x.toNat_lt⟩
end Go.Proofs.Ytcjncidahjneaaa

namespace Go.Proofs.Ytcjncidahjneaaa
open Go.RowKit
end Go.Proofs.Ytcjncidahjneaaa

namespace Go.Proofs.Ytcjncidahjneaaa
open Go.ChangeShapes Go.WideShapes Go.ChangeAt Go.RowKit
attribute [local irreducible] wpList wpListIn Oper.quietAt wpM
end Go.Proofs.Ytcjncidahjneaaa

namespace Go.Proofs.Ytcjncidahjneaaa
open Go.ChangeShapes Go.WideShapes Go.ChangeAt Go.RowKit
attribute [local irreducible] wpList wpListIn Oper.quietAt wpM
theorem PartsAt.one {w : World} {vs : List Value} {ls : List (List UInt8)} (h : PartsAt w vs ls) : ∀ v ∈ vs, v.oneCell' = true := by
  intro v hv
  obtain ⟨i, hi, rfl⟩ := List.getElem_of_mem hv
  have h1 := List.getElem?_eq_getElem hi
  have h2 := List.getElem?_eq_getElem (l := ls) (i := i) (by rw [← h.1]; exact hi)
  obtain ⟨p, c, he, _⟩ := (h.2 i _ _ h1 h2).1
  rw [he]; rfl
end Go.Proofs.Ytcjncidahjneaaa

namespace Go.Proofs.Ytcjncidahjneaaa
open Go.ChangeShapes Go.WideShapes Go.ChangeAt Go.RowKit
attribute [local irreducible] wpList wpListIn Oper.quietAt wpM
theorem St.perm {w0 w : World} {L L' : List Blk} (h : St w0 w L) (hp : L.Perm L') : St w0 w L' :=
  Ab.sub h (fun _x hx => hp.mem_iff.2 hx) ((hp.map _).nodup_iff.1 h.2.2)
end Go.Proofs.Ytcjncidahjneaaa

namespace Go.Proofs.Ytcjncidahjneaaa
open Go.ChangeShapes Go.WideShapes Go.ChangeAt Go.RowKit
attribute [local irreducible] wpList wpListIn Oper.quietAt wpM
end Go.Proofs.Ytcjncidahjneaaa
