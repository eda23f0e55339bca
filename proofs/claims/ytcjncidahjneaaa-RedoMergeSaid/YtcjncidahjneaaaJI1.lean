/-
  Laws that the claims of this seat use, of several texts in one: Rd5. No condition of their own.
-/
import Derived.Test.YtcjncidahjneaaaJI0

namespace Go.Proofs.Ytcjncidahjneaaa
open Go.ChangeShapes Go.WideShapes Go.ChangeAt Go.RowKit
attribute [local irreducible] wpList wpListIn Oper.quietAt wpM
end Go.Proofs.Ytcjncidahjneaaa
