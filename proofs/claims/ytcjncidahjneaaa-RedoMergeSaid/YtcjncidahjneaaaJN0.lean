/-
  Laws that the claims of this seat use, of several texts in one: RdH, RdQ. No condition of their own.
-/
import Derived.Test.YtcjncidahjneaaaJM0

namespace Go.Proofs.Ytcjncidahjneaaa
open Go.ChangeShapes Go.WideShapes Go.ChangeAt Go.RowKit
attribute [local irreducible] wpList wpListIn Oper.quietAt wpM
theorem beN_eight_of {n : Int} (h0 : -9223372036854775808 ≤ n) (h : n ≤ 9223372036854775807) : wrap64 (beN (beB (u64W n) 8) : Int) = n := by
  have e : (256 : Nat) ^ 8 = 18446744073709551616 := by decide +kernel
  rw [beN_beB, e]
  unfold u64W wrap64
  omega
end Go.Proofs.Ytcjncidahjneaaa

namespace Go.Proofs.Ytcjncidahjneaaa
open Go.ChangeShapes Go.WideShapes Go.ChangeAt Go.RowKit
open Go.ChangeShapes Go.WideShapes Go.ChangeAt Go.RowKit
set_option maxRecDepth 100000
end Go.Proofs.Ytcjncidahjneaaa
