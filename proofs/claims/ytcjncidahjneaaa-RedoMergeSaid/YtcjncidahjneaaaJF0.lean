/-
  Laws that the claims of this seat use, of several texts in one: Slices7, Sh7, AppZ, Sh8, Sh9, Sh10. No condition of their own.
-/
import Derived.Test.YtcjncidahjneaaaJE1

namespace Go.Proofs.Ytcjncidahjneaaa
open Go.ChangeShapes Go.WideShapes Go.ChangeAt Go.RowKit
attribute [local irreducible] wpList wpListIn
end Go.Proofs.Ytcjncidahjneaaa

namespace Go.Proofs.Ytcjncidahjneaaa
open Go.ChangeShapes Go.WideShapes Go.ChangeAt Go.RowKit
attribute [local irreducible] wpList wpListIn Oper.quietAt wpM
/-- Slices of bytes, each with what it holds; none is empty. -/
def PartsAt (w : World) (vs : List Value) (ls : List (List UInt8)) : Prop := vs.length = ls.length ∧ ∀ (i : Nat) (v : Value) (l : List UInt8), vs[i]? = some v → ls[i]? = some l → BytesAt w v l ∧ l ≠ []
theorem PartsAt.below {w w' : World} {vs : List Value} {ls : List (List UInt8)} (h : PartsAt w vs ls) (hb : Below w.heap.size w w') : PartsAt w' vs ls :=
  ⟨h.1, fun i v l hi hl => ⟨(h.2 i v l hi hl).1.below hb, (h.2 i v l hi hl).2⟩⟩
theorem PartsAt.nil (w : World) : PartsAt w [] [] := ⟨rfl, fun i v l h => by simp at h⟩
theorem PartsAt.cons {w : World} {v : Value} {l : List UInt8} {vs : List Value} {ls : List (List UInt8)} (h1 : BytesAt w v l) (hne : l ≠ []) (h : PartsAt w vs ls) : PartsAt w (v :: vs) (l :: ls) := by
  refine ⟨by simp [h.1], fun i v' l' hi hl => ?_⟩
  cases i with
  | zero => simp at hi hl; subst hi hl; exact ⟨h1, hne⟩
  | succ i => exact h.2 i v' l' (by simpa using hi) (by simpa using hl)
end Go.Proofs.Ytcjncidahjneaaa

namespace Go.Proofs.Ytcjncidahjneaaa
open Go.RowKit
attribute [local irreducible] wpList wpListIn
section
variable {P : Program} {ops : Array Oper} {W : List Oper → Act → World → Prop} {o : Oper} {rest : List Oper} {a : Act} {w : World} {v : Value} {B : Nat} {H : World → List Blk → Prop} {L : List Blk}
end
end Go.Proofs.Ytcjncidahjneaaa

namespace Go.Proofs.Ytcjncidahjneaaa
open Go.ChangeShapes Go.WideShapes Go.ChangeAt Go.RowKit
attribute [local irreducible] wpList wpListIn Oper.quietAt wpM
instance instSh8_1 : GoF Try.prog 97 := ⟨by kernel_rfl⟩
instance instSh8_2 : GoF Try.prog 32 := ⟨by kernel_rfl⟩
end Go.Proofs.Ytcjncidahjneaaa

namespace Go.Proofs.Ytcjncidahjneaaa
open Go.ChangeShapes Go.WideShapes Go.ChangeAt Go.RowKit
attribute [local irreducible] wpList wpListIn Oper.quietAt wpM
end Go.Proofs.Ytcjncidahjneaaa

namespace Go.Proofs.Ytcjncidahjneaaa
open Go.ChangeShapes Go.WideShapes Go.ChangeAt Go.RowKit
attribute [local irreducible] wpList wpListIn Oper.quietAt wpM
instance instSh10_1 : GoF Try.prog 63 := ⟨by kernel_rfl⟩
instance instSh10_2 : GoF Try.prog 62 := ⟨by kernel_rfl⟩
instance instSh10_3 : ZeroT Try.prog 24 (bvs (zs 32)) := ⟨by kernel_rfl⟩
theorem bvs_fill {l : List UInt8} {i n : Nat} (hi : i < n) (hl : l.length = n) : (bvs (l.take i ++ zs (n - i))).setIfInBounds i (.int .u8 ((l.getD i 0).toNat : Int)) = bvs (l.take (i + 1) ++ zs (n - (i + 1))) := by
  have e1 : n - i = (n - (i + 1)) + 1 := by omega
  have e2 : zs (n - i) = 0 :: zs (n - (i + 1)) := by rw [e1]; unfold zs; exact List.replicate_succ
  have e3 : (l.take i).length = i := by rw [List.length_take]; omega
  have e4 : l.take (i + 1) = l.take i ++ [l.getD i 0] := by
    rw [List.take_add_one, List.getD_eq_getElem?_getD, List.getElem?_eq_getElem (by omega)]; rfl
  rw [e2, e4]
  unfold bvs
  rw [List.setIfInBounds_toArray, List.map_append, List.set_append_right _ _ (by rw [List.length_map, e3]; exact Nat.le_refl _), List.length_map, e3, Nat.sub_self]
  simp [bv]
end Go.Proofs.Ytcjncidahjneaaa
