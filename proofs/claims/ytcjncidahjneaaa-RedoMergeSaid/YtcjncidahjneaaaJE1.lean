/-
  Laws that the claims of this seat use, of several texts in one: Sh6. No condition of their own.
-/
import Derived.Test.YtcjncidahjneaaaJE0

namespace Go.Proofs.Ytcjncidahjneaaa
open Go.ChangeShapes Go.WideShapes Go.ChangeAt Go.RowKit
attribute [local irreducible] wpList wpListIn Oper.quietAt wpM
end Go.Proofs.Ytcjncidahjneaaa
