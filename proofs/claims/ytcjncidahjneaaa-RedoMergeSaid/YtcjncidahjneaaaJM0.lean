/-
  Laws that the claims of this seat use, of several texts in one: PermR, RdE. No condition of their own.
-/
import Derived.Test.YtcjncidahjneaaaJL0

namespace Go.Proofs.Ytcjncidahjneaaa
open Go.RowKit
section
variable {P : Program} {md : Region.Mode} {Q : Exit → Act → World → Prop} {s : List Nat} {l : List Oper} {lp : Nat}
end
end Go.Proofs.Ytcjncidahjneaaa

namespace Go.Proofs.Ytcjncidahjneaaa
open Go.ChangeShapes Go.WideShapes Go.ChangeAt Go.RowKit
attribute [local irreducible] wpList wpListIn Oper.quietAt wpM
theorem StD.cls {w0 w w' : World} {D : Nat} {L : List Blk} (h : StD w0 D w L) (hc : Cls w w') : StD w0 D w' L := own_stD.call h hc
theorem Own.perm {B : Nat} {H : World → List Blk → Prop} (hH : Own B H) {w : World} {L L' : List Blk} (h : H w L) (hp : L.Perm L') : H w L' := hH.sub h (fun _ hx => hp.mem_iff.2 hx) ((hp.map _).nodup_iff.1 (hH.nodup h))
theorem OwL.puts {B : Nat} {H : World → List Blk → Prop} (hH : Own B H) {w : World} {L : List Blk} {l : List Pt} {v : Value} {Lr : List Blk} {sz : Nat} {t : TypeId} (h : OwL putC sz t l v Lr) (ho : okP l) (hS : H w L) (hm : ∀ x ∈ Lr, x ∈ L) : PutsAt w v l := by
  rcases h with ⟨rfl, rfl, rfl⟩ | ⟨g, c, sp, rfl, h1, h2, h3, rfl⟩
  · exact PutsAt.nil w
  · obtain ⟨i, hi⟩ := List.getElem?_of_mem (hm _ (List.mem_cons_self ..))
    exact PutsAt.own ho rfl h1 (hH.blk i hS hi)
theorem OwnL.puts {B : Nat} {w : World} {l : List Pt} {v : Value} {sz : Nat} {t : TypeId} (h : OwnL putC sz t B w v l) (ho : okP l) : PutsAt w v l := by
  rcases h with ⟨rfl, rfl⟩ | ⟨g, c, sp, rfl, h1, h2, h3, h4, h5⟩
  · exact PutsAt.nil w
  · exact PutsAt.own ho rfl h1 h5
end Go.Proofs.Ytcjncidahjneaaa
