/-
  Laws that the claims of this seat use, of several texts in one: IterO, IterP, IterB, RangeP, PostM, Sh11, Sh12, Sh13. No condition of their own.
-/
import Derived.Test.YtcjncidahjneaaaJF0

namespace Go.Proofs.Ytcjncidahjneaaa
open Go.RowKit
end Go.Proofs.Ytcjncidahjneaaa

namespace Go.Proofs.Ytcjncidahjneaaa
open Go.RowKit
attribute [local irreducible] wpList wpListIn
section
variable {P : Program} {ops : Array Oper} {o : Oper} {rest : List Oper} {a : Act} {w : World} {v : Value}
end
theorem YieldAt.inRound {P : Program} {l lp : Nat} {args : Array Value} {w : World} {R : Ending → World → Prop} (h : YieldAt Fence.wide 0 P l args w R) : YieldAt (Fence.wide.inRound lp) 0 P l args w R := h
end Go.Proofs.Ytcjncidahjneaaa

namespace Go.Proofs.Ytcjncidahjneaaa
open Go.RowKit
end Go.Proofs.Ytcjncidahjneaaa

namespace Go.Proofs.Ytcjncidahjneaaa
open Go.RowKit
/-- What came in is as it was, wherever a round stands. -/
theorem In.bytes {w0 w W : World} {L0 L : List Blk} (h : St w0 w L0) (h2 : In L0 w L W) {v : Value} {l : List UInt8} (hv : BytesAt w0 v l) : BytesAt W v l := hv.below (h.range h2).below
end Go.Proofs.Ytcjncidahjneaaa

namespace Go.Proofs.Ytcjncidahjneaaa
open Go.ChangeShapes Go.WideShapes Go.ChangeAt Go.RowKit
theorem postMR {P : Program} {fn : Func} {R : Ending → World → Prop} {a : Act} {w : World} {e : Exit} {D : Nat} (he : e = .ret ∨ e = .normal) (hd : a.defers = [{ target := .collected D, args := #[] }]) (hk : w.heap[D]? = some (.deferred (some [])))
    (h : bodyPost P fn R .ret { a with defers := [] } (w.putObj D (.deferred none))) : bodyPostM Fence.wide 0 P fn R e a w := by
  obtain ⟨_, v, hr, hR⟩ := h
  have key : LeavesInM Fence.wide 0 P fn a.tmps R a.defers .returning w := by
    rw [hd]
    exact ⟨by simp, .inl ⟨D, _, rfl, run_takeDeferred hk, v, hr, hR⟩⟩
  rcases he with rfl | rfl
  · exact key
  · exact key
theorem calls_of_marksR {P : Program} {f : FuncId} {fn : Func} {c : Code} {args : Array Value} {w : World} {R : Ending → World → Prop} (hf : P.funcs[f]? = some fn) (hb : fn.body = some c)
    (h : c.wp P (bodyPostM Fence.wide 0 P fn R) { tmps := args ++ Array.replicate (fn.ntmps - args.size) undef, defers := [] } w) : Calls P f args w R :=
  (callsIn_wide (n := 0)).1 (callsIn_of_wp_marks hf hb trivial (wpIn_wide.2 h))
end Go.Proofs.Ytcjncidahjneaaa

namespace Go.Proofs.Ytcjncidahjneaaa
open Go.ChangeShapes Go.WideShapes Go.ChangeAt Go.RowKit
attribute [local irreducible] wpList wpListIn Oper.quietAt wpM
end Go.Proofs.Ytcjncidahjneaaa

namespace Go.Proofs.Ytcjncidahjneaaa
open Go.ChangeShapes Go.WideShapes Go.ChangeAt Go.RowKit
attribute [local irreducible] wpList wpListIn Oper.quietAt wpM
end Go.Proofs.Ytcjncidahjneaaa

namespace Go.Proofs.Ytcjncidahjneaaa
open Go.ChangeShapes Go.WideShapes Go.ChangeAt Go.RowKit
attribute [local irreducible] wpList wpListIn Oper.quietAt wpM
theorem IterAt.congr {P : Program} {gf : Nat} {lb : Array Value} {els els' : Nat → Array Value} {N : Option Nat} {R : List Nat} {W0 : World} (h : IterAt P gf lb els N R W0) (he : ∀ k, (∀ n, N = some n → k < n) → els' k = els k) : IterAt P gf lb els' N R W0 := by
  intro l J Jx M W L0 a b c d e hY
  exact h l J Jx M W L0 a b c d e (fun k L W1 hJ hR hk => by rw [← he k hk]; exact hY k L W1 hJ hR hk)
end Go.Proofs.Ytcjncidahjneaaa
