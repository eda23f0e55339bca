/-
  Laws that the claims of this seat use, of several texts in one: RedoEncodesW, RdB, OwL, RdC, RdD. No condition of their own.
-/
import Derived.Test.YtcjncidahjneaaaJK0

namespace Go.Proofs.Ytcjncidahjneaaa
open Go.ChangeShapes Go.WideShapes Go.ChangeAt Go.RowKit
attribute [local irreducible] wpList wpListIn Oper.quietAt wpM
attribute [local irreducible] cellN rowP
theorem PutsAt.nil (w : World) : PutsAt w (.slice none 0 0) [] := ⟨fun _ h => absurd h List.not_mem_nil, none, 0, rfl, Nat.le_refl _, fun _ => rfl, fun h => absurd rfl h⟩
end Go.Proofs.Ytcjncidahjneaaa

namespace Go.Proofs.Ytcjncidahjneaaa
open Go.ChangeShapes Go.WideShapes Go.ChangeAt Go.RowKit
attribute [local irreducible] wpList wpListIn Oper.quietAt wpM
end Go.Proofs.Ytcjncidahjneaaa

namespace Go.Proofs.Ytcjncidahjneaaa
open Go.ChangeShapes Go.WideShapes Go.ChangeAt Go.RowKit
attribute [local irreducible] wpList wpListIn Oper.quietAt wpM
/-- An own slice of elements that `f` writes in cells, or nil. -/
def OwL {α : Type} (f : α → List Value) (sz : Nat) (t : TypeId) (l : List α) (v : Value) (Lr : List Blk) : Prop := (v = .slice none 0 0 ∧ l = [] ∧ Lr = []) ∨
  ∃ g c sp, v = .slice (some ⟨g, 0, none⟩) l.length c ∧ l.length ≤ c ∧ c ≤ maxLen ∧ sp.length = (c - l.length) * sz ∧ Lr = [(g, (l.flatMap f ++ sp).toArray, t)]
/-- The same, as a function leaves it. -/
def OwnL {α : Type} (f : α → List Value) (sz : Nat) (t : TypeId) (B : Nat) (w : World) (v : Value) (l : List α) : Prop := (v = .slice none 0 0 ∧ l = []) ∨
  ∃ g c sp, v = .slice (some ⟨g, 0, none⟩) l.length c ∧ l.length ≤ c ∧ c ≤ maxLen ∧ sp.length = (c - l.length) * sz ∧ B ≤ g ∧ blk w g = some (.cells (l.flatMap f ++ sp).toArray t (0, 0))
/-- A slice of elements, wherever it lies. -/
def OwAt {α : Type} (f : α → List Value) (w : World) (v : Value) (l : List α) : Prop := ∃ p c, v = .slice p l.length c ∧ l.length ≤ c ∧ (p = none → c = 0) ∧ (l ≠ [] → ∃ b o cs t fr, p = some ⟨b, o, none⟩ ∧ blk w b = some (.cells cs t fr) ∧ ∀ j x, (l.flatMap f)[j]? = some x → cs[o + j]? = some x)
section
variable {α : Type} {f : α → List Value} {sz : Nat} {t : TypeId} {l : List α} {v : Value} {Lr : List Blk}
theorem OwAt.below {w w' : World} (h : OwAt f w v l) (hb : Below w.heap.size w w') : OwAt f w' v l := by
  obtain ⟨p, c, h1, h2, h3, h4⟩ := h
  refine ⟨p, c, h1, h2, h3, fun hne => ?_⟩
  obtain ⟨b, o, cs, t, fr, h5, h6, h7⟩ := h4 hne
  exact ⟨b, o, cs, t, fr, h5, (hb.block b (blk_lt h6)).trans h6, h7⟩
theorem OwL.slice (h : OwL f sz t l v Lr) : ∃ p c, v = .slice p l.length c := by
  rcases h with ⟨rfl, rfl, _⟩ | ⟨g, c, sp, rfl, _⟩
  · exact ⟨_, _, rfl⟩
  · exact ⟨_, _, rfl⟩
theorem OwnL.slice {B : Nat} {w : World} (h : OwnL f sz t B w v l) : ∃ p c, v = .slice p l.length c := by
  rcases h with ⟨rfl, rfl⟩ | ⟨g, c, sp, rfl, _⟩
  · exact ⟨_, _, rfl⟩
  · exact ⟨_, _, rfl⟩
theorem OwL.own {w0 w : World} {L : List Blk} (h : OwL f sz t l v Lr) (hS : St w0 w L) (hm : ∀ x ∈ Lr, x ∈ L) : OwnL f sz t w0.heap.size w v l := by
  rcases h with ⟨rfl, rfl, rfl⟩ | ⟨g, c, sp, rfl, h1, h2, h3, rfl⟩
  · exact .inl ⟨rfl, rfl⟩
  · have := hS.2.1 _ (hm _ (List.mem_cons_self ..))
    exact .inr ⟨g, c, sp, rfl, h1, h2, h3, this.1, this.2⟩
theorem OwAt.nil (w : World) : OwAt f w (.slice none 0 0) [] := ⟨none, 0, rfl, Nat.le_refl _, fun _ => rfl, fun h => absurd rfl h⟩
theorem OwAt.blk {w : World} {g c n : Nat} {sp : List Value} {t : TypeId} {fr : Nat × Nat} (hn : n = l.length) (hc : n ≤ c) (hb : blk w g = some (.cells (l.flatMap f ++ sp).toArray t fr)) : OwAt f w (.slice (some ⟨g, 0, none⟩) n c) l := by
  subst hn
  exact ⟨_, c, rfl, hc, (fun h => by cases h), fun _ => ⟨g, 0, _, t, fr, rfl, hb, fun j x hj => by
    rw [Nat.zero_add, List.getElem?_toArray, List.getElem?_append_left (List.getElem?_eq_some_iff.1 hj).1, hj]⟩⟩
theorem OwL.at {B : Nat} {H : World → List Blk → Prop} (hH : Own B H) {w : World} {L : List Blk} (h : OwL f sz t l v Lr) (hS : H w L) (hm : ∀ x ∈ Lr, x ∈ L) : OwAt f w v l := by
  rcases h with ⟨rfl, rfl, rfl⟩ | ⟨g, c, sp, rfl, h1, h2, h3, rfl⟩
  · exact OwAt.nil w
  · obtain ⟨i, hi⟩ := List.getElem?_of_mem (hm _ (List.mem_cons_self ..))
    exact OwAt.blk rfl h1 (hH.blk i hS hi)
theorem owl_len (hf : ∀ a ∈ l, (f a).length = sz) : (l.flatMap f).length = l.length * sz := by
  induction l with
  | nil => simp
  | cons a l ih =>
    rw [List.flatMap_cons, List.length_append, hf a (List.mem_cons_self ..), ih (fun b hb => hf b (List.mem_cons_of_mem _ hb)), List.length_cons, Nat.add_mul]
    omega
theorem owl_snoc (l : List α) (x : α) : (l ++ [x]).flatMap f = l.flatMap f ++ f x := by rw [List.flatMap_append, List.flatMap_singleton]
end
/-- One element more. -/
theorem s_appL {α : Type} {f : α → List Value} {sz bytes : Nat} {t e : TypeId} {l : List α} {x0 : α} {sv : Value} {Lr L : List Blk} {nb : Nat} {x y : Operand} {P : Program} {ops : Array Oper} {W : List Oper → Act → World → Prop} {o : Oper} {rest : List Oper} {a : Act} {w : World} {B : Nat} {H : World → List Blk → Prop}
    (hs : Stp P ops W) (hH : Own B H) (hS : H w ((nb, (f x0).toArray, e) :: (Lr ++ L))) (hR : OwL f sz e l sv Lr) (hw : Region.wanted o (yielded ops a.tmps) = true) (hop : o.op = .call { callee := .builtin .append, args := #[x, y], argTypes := #[t, t] }) (hx : evO a x = some sv) (hy : evO a y = some (.slice (some ⟨nb, 0, none⟩) 1 1)) (hT : SlT P t e sz bytes)
    (hf : ∀ a ∈ l, (f a).length = sz) (hfx : (f x0).length = sz) (hone : ∀ v ∈ f x0, v.oneCell' = true) (hm : l.length + 1 ≤ maxLen ∧ (l.length + 1) * bytes ≤ 140737488355328)
    (hk : ∀ sv' Lr' w', OwL f sz e (l ++ [x0]) sv' Lr' → H w' (Lr' ++ L) → W rest (a.put o.dst sv') w') : W (o :: rest) a w := by
  have hsrc : ∀ j v, (f x0)[j]? = some v → w.cell? ((⟨nb, 0, none⟩ : Addr).add j) = some v := src_blk (hH.blk 0 hS rfl) (fun j v h => by rw [Nat.zero_add]; exact h)
  rcases hR with ⟨rfl, rfl, rfl⟩ | ⟨g, c, sp, rfl, h1, h2, h3, rfl⟩
  · simp only [List.nil_append] at hS
    refine s_append0 hs hH hS hw hop hx hy hT (xs := f x0) hsrc (by rw [hfx, Nat.one_mul]) (by
      obtain ⟨q1, q2⟩ := hm
      simp only [List.length_nil, Nat.zero_add] at q1 q2
      exact ⟨by omega, q1, q2⟩) ?_
    intro by2 cy2 S2 w' hq1 hq2 hq3 hS2
    refine hk _ [(by2, (([] ++ [x0]).flatMap f ++ S2).toArray, e)] _ (.inr ⟨by2, cy2, S2, rfl, hq1, hq2, hq3, rfl⟩) ?_
    have hn := hH.nodup hS2
    rw [show f x0 = ([] ++ [x0]).flatMap f by rw [List.nil_append, List.flatMap_singleton]] at hS2
    simp only [List.map_cons, List.nodup_cons, List.mem_cons, not_or] at hn
    refine hH.sub (L' := (by2, (([] ++ [x0]).flatMap f ++ S2).toArray, e) :: L) hS2 (fun z hz => ?_) ?_
    · rcases List.mem_cons.1 hz with rfl | hz
      · exact List.mem_cons_self ..
      · exact List.mem_cons_of_mem _ (List.mem_cons_of_mem _ hz)
    · simp only [List.map_cons, List.nodup_cons]
      exact ⟨hn.1.2, hn.2.2⟩
  · simp only [List.cons_append, List.nil_append] at hS
    refine s_append hs hH hS hw hop hx hy hT (by exact at_ 1 rfl) (olds := l.flatMap f) (spare := sp) (by rfl) (owl_len hf) h1 h3 (xs := f x0) hsrc (by rw [hfx, Nat.one_mul]) hone ⟨hm.1, hm.2, h2⟩ rfl ?_
    intro by2 cy2 S2 w' hq1 hq2 hq3 hS2
    have e1 : l.length + 1 = (l ++ [x0]).length := by rw [List.length_append]; rfl
    refine hk _ [(by2, ((l ++ [x0]).flatMap f ++ S2).toArray, e)] _ (.inr ⟨by2, cy2, S2, by rw [e1], by rw [← e1]; exact hq1, hq2, by rw [← e1]; exact hq3, rfl⟩) ?_
    have hn := hH.nodup hS2
    rw [← owl_snoc] at hS2
    simp only [List.eraseIdx_cons_succ, List.eraseIdx_cons_zero, List.map_cons, List.nodup_cons, List.mem_cons, not_or] at hn
    refine hH.sub (L' := (by2, ((l ++ [x0]).flatMap f ++ S2).toArray, e) :: L) hS2 (fun z hz => ?_) ?_
    · rcases List.mem_cons.1 hz with rfl | hz
      · exact List.mem_cons_self ..
      · exact List.mem_cons_of_mem _ (List.mem_cons_of_mem _ hz)
    · simp only [List.map_cons, List.nodup_cons]
      exact ⟨hn.1.2, hn.2.2⟩
end Go.Proofs.Ytcjncidahjneaaa

namespace Go.Proofs.Ytcjncidahjneaaa
open Go.ChangeShapes Go.WideShapes Go.ChangeAt Go.RowKit
attribute [local irreducible] wpList wpListIn Oper.quietAt wpM
end Go.Proofs.Ytcjncidahjneaaa

namespace Go.Proofs.Ytcjncidahjneaaa
open Go.ChangeShapes Go.WideShapes Go.ChangeAt Go.RowKit
attribute [local irreducible] wpList wpListIn Oper.quietAt wpM
end Go.Proofs.Ytcjncidahjneaaa
