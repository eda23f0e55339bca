/-
  Laws that the claims of this seat use, of several texts in one: EngB, TyJ. No condition of their own.
-/
import Derived.Laws.Tables
import Derived.Test.YtkfggilildiflacJC0

namespace Go.Proofs.Ytkfggilildiflac
open Go.RowKit
attribute [local irreducible] wpList wpListIn
/-- Of a struct type: where its fields lie and how many cells they have, and its noughts. -/
def stT (P : Program) (t : TypeId) : Option (List (Nat × Nat) × Array Value) := match P.info? t, P.underlying t with
  | some it, some (.struct fields) => (match it.zero, fields.toList.mapM (fun f => (P.info? f.type).map fun i => (f.offset, i.size)) with
    | some z, some places => some (places, z.cells)
    | _, _ => none)
  | _, _ => none
class StT (P : Program) (t : TypeId) (pl : outParam (List (Nat × Nat))) (z : outParam (List Value)) : Prop where
  is : stT P t = some (pl, z.toArray)
/-- Of an array type: how many cells its elements have, and its noughts. -/
def atT (P : Program) (t : TypeId) : Option (Nat × Array Value) := match P.info? t, P.underlying t with
  | some it, some (.array _ e) => (match it.zero, P.info? e with
    | some z, some ie => some (ie.size, z.cells)
    | _, _ => none)
  | _, _ => none
class AtT (P : Program) (t : TypeId) (n : outParam Nat) (z : outParam (List Value)) : Prop where
  is : atT P t = some (n, z.toArray)
def evp (a : Act) : List (Nat × Operand) → Option (List (Nat × Value))
  | [] => some []
  | (i, x) :: l => match evO a x, evp a l with
    | some v, some vs => some ((i, v) :: vs)
    | _, _ => none
theorem evp_eval {a : Act} : ∀ {l : List (Nat × Operand)} {vs : List (Nat × Value)}, evp a l = some vs → l.map (fun y => (y.1, a.eval y.2)) = vs
  | [], vs, h => by simp only [evp, Option.some.injEq] at h; exact h
  | (i, x) :: l, vs, h => by
    simp only [evp] at h
    split at h
    · rename_i v vs' h1 h2
      simp only [Option.some.injEq] at h
      subst h
      simp only [List.map_cons, Ct h1, evp_eval h2]
    · cases h
section
variable {P : Program} {ops : Array Oper} {W : List Oper → Act → World → Prop} {o : Oper} {rest : List Oper} {a : Act} {w : World} {v : Value} {C : World → Prop} {B : Nat} {H : World → List Blk → Prop} {L : List Blk}
theorem built_st {t : TypeId} {pl : List (Nat × Nat)} {z : List Value} (hT : StT P t pl z) {vs : List (Nat × Value)} {cs : Array Value} (hc : Instr.fill (pl.toArray[·]?) z.toArray vs = some cs) : P.built t vs = some cs := by
  have h := hT.is
  unfold stT at h
  unfold Program.built
  split at h
  · next it fields h1 h2 =>
    split at h
    · next zz places h3 h4 =>
      simp only [Option.some.injEq, Prod.mk.injEq] at h
      obtain ⟨rfl, h5⟩ := h
      simp only [h1, h2, h3, h4, h5]
      exact hc
    · cases h
  · cases h
theorem built_at {t : TypeId} {n : Nat} {z : List Value} (hT : AtT P t n z) {vs : List (Nat × Value)} {cs : Array Value} (hc : Instr.fill (fun i => some (i * n, n)) z.toArray vs = some cs) : P.built t vs = some cs := by
  have h := hT.is
  unfold atT at h
  unfold Program.built
  split at h
  · next it m e h1 h2 =>
    split at h
    · next zz ie h3 h4 =>
      simp only [Option.some.injEq, Prod.mk.injEq] at h
      obtain ⟨rfl, h5⟩ := h
      simp only [h1, h2, h3, h4, h5]
      exact hc
    · cases h
  · cases h
/-- What a literal's cells are, part by part. -/
inductive FillS (place : Nat → Option (Nat × Nat)) : List Value → List (Nat × Value) → List Value → Prop
  | nil {z : List Value} : FillS place z [] z
  | one {z z' cs : List Value} {i off : Nat} {v : Value} {r : List (Nat × Value)} (hp : place i = some (off, 1)) (hv : v.oneCell' = true) (ho : off < z.length) (hz : z.set off v = z') (hr : FillS place z' r cs) : FillS place z ((i, v) :: r) cs
  | row {z z' cs : List Value} {i off n : Nat} {vs : Array Value} {r : List (Nat × Value)} (hp : place i = some (off, n)) (hv : csz vs = n) (ho : off + n ≤ z.length) (hz : z.take off ++ vs.toList ++ z.drop (off + n) = z') (hr : FillS place z' r cs) : FillS place z ((i, .agg vs) :: r) cs
theorem fold_paste (vs : List Value) : ∀ (off k : Nat) (z : List Value), off + k + vs.length ≤ z.length → (vs.zipIdx k).foldl (fun (cs : Array Value) (x : Value × Nat) => cs.setIfInBounds (off + x.2) x.1) z.toArray = (z.take (off + k) ++ vs ++ z.drop (off + k + vs.length)).toArray := by
  induction vs with
  | nil => intro off k z h; simp
  | cons v vs ih =>
    intro off k z h
    simp only [List.length_cons] at h
    rw [List.zipIdx_cons, List.foldl_cons]
    simp only [List.setIfInBounds_toArray]
    rw [ih off (k + 1) _ (by simp; omega)]
    congr 1
    rw [show off + (k + 1) = off + k + 1 by omega, List.take_set, List.drop_set, if_pos (by omega), List.length_cons, show off + k + 1 + vs.length = off + k + (vs.length + 1) by omega]
    congr 1
    apply List.ext_getElem?
    intro j
    simp only [List.getElem?_append, List.length_set, List.length_take, List.getElem?_set, List.getElem?_take, List.length_cons]
    by_cases h1 : j < off + k
    · simp [h1, show j < min (off + k + 1) z.length by omega, show j < min (off + k) z.length by omega, show off + k ≠ j by omega, show j < off + k + 1 by omega]
    · by_cases h2 : j = off + k
      · subst h2
        simp [show off + k < min (off + k + 1) z.length by omega, show ¬ off + k < min (off + k) z.length by omega, show min (off + k) z.length = off + k by omega]
      · simp [show ¬ j < min (off + k + 1) z.length by omega, show ¬ j < min (off + k) z.length by omega, show min (off + k) z.length = off + k by omega, show min (off + k + 1) z.length = off + k + 1 by omega]
        rw [show j - (off + k) = (j - (off + k + 1)) + 1 by omega, List.getElem?_cons_succ, if_neg (by omega), if_neg (by omega)]
theorem fill_of {place : Nat → Option (Nat × Nat)} {z cs : List Value} {vs : List (Nat × Value)} (h : FillS place z vs cs) : Instr.fill place z.toArray vs = some cs.toArray := by
  induction h with
  | nil => rfl
  | @one z z' cs i off v r hp hv ho hz hr ih =>
    unfold Instr.fill
    rw [hp]
    have hc : v.cells = #[v] := by cases v <;> first | rfl | (simp [Value.oneCell'] at hv)
    simp only [hc]
    rw [if_neg (by simp; omega)]
    subst hz
    rw [← ih]
    congr 1
    simp
  | @row z z' cs i off n ws r hp hv ho hz hr ih =>
    unfold Instr.fill
    rw [hp]
    have hc : (Value.agg ws).cells = ws := rfl
    have hs : ws.size = n := hv
    simp only [hc]
    rw [if_neg (by simp [hs]; omega)]
    subst hz
    rw [← ih]
    congr 1
    have := fold_paste ws.toList off 0 z (by simp [hs]; exact ho)
    rw [← Array.foldl_toList, Array.toList_zipIdx]
    simp only [Nat.add_zero, Array.length_toList, hs] at this ⊢
    exact this
theorem r_built {t : TypeId} {parts : Array (Nat × Operand)} {vs : List (Nat × Value)} {cs : Array Value} (hop : o.op = .build t parts) (hp : evp a parts.toList = some vs) (hb : P.built t vs = some cs) : (execOp a.eval o).run P w = .ok (.value (.agg cs)) w := by
  unfold execOp; rw [hop]
  have e1 : (parts.map fun (i, x) => (i, a.eval x)).toList = vs := by
    rw [Array.toList_map]; exact evp_eval hp
  have hr := Go.run_build (P := P) w t (parts.map fun (i, x) => (i, a.eval x)) cs (by rw [e1]; exact hb)
  simp only [Sem.run_bind, hr, Result.andThen_ok]
  rfl
theorem Bj {t : TypeId} {parts : Array (Nat × Operand)} {vs : List (Nat × Value)} {cs : List Value} {pl : List (Nat × Nat)} {z : List Value} (hStp : Stp P ops W) (hk : W rest (a.put o.dst (.agg cs.toArray)) w) (hop : o.op = .build t parts := by rfl) (hp : evp a parts.toList = some vs := by rfl) (hT : StT P t pl z := by infer_instance) (hc : FillS (pl.toArray[·]?) z vs cs := by first | exact FillS.nil | exact FillS.one (by rfl) (by rfl) (by (try simp only [List.length_append, List.length_set, List.length_cons, List.length_nil]); first | done | decide | omega) (by (try conv => lhs; simp only [List.set_cons_zero, List.set_cons_succ]); first | done | rfl) FillS.nil | exact FillS.one (by rfl) (by rfl) (by (try simp only [List.length_append, List.length_set, List.length_cons, List.length_nil]); first | done | decide | omega) (by (try conv => lhs; simp only [List.set_cons_zero, List.set_cons_succ]); first | done | rfl) (FillS.one (by rfl) (by rfl) (by (try simp only [List.length_append, List.length_set, List.length_cons, List.length_nil]); first | done | decide | omega) (by (try conv => lhs; simp only [List.set_cons_zero, List.set_cons_succ]); first | done | rfl) FillS.nil) | exact FillS.one (by rfl) (by rfl) (by (try simp only [List.length_append, List.length_set, List.length_cons, List.length_nil]); first | done | decide | omega) (by (try conv => lhs; simp only [List.set_cons_zero, List.set_cons_succ]); first | done | rfl) (FillS.one (by rfl) (by rfl) (by (try simp only [List.length_append, List.length_set, List.length_cons, List.length_nil]); first | done | decide | omega) (by (try conv => lhs; simp only [List.set_cons_zero, List.set_cons_succ]); first | done | rfl) (FillS.one (by rfl) (by rfl) (by (try simp only [List.length_append, List.length_set, List.length_cons, List.length_nil]); first | done | decide | omega) (by (try conv => lhs; simp only [List.set_cons_zero, List.set_cons_succ]); first | done | rfl) FillS.nil)) | exact FillS.one (by rfl) (by rfl) (by (try simp only [List.length_append, List.length_set, List.length_cons, List.length_nil]); first | done | decide | omega) (by (try conv => lhs; simp only [List.set_cons_zero, List.set_cons_succ]); first | done | rfl) (FillS.one (by rfl) (by rfl) (by (try simp only [List.length_append, List.length_set, List.length_cons, List.length_nil]); first | done | decide | omega) (by (try conv => lhs; simp only [List.set_cons_zero, List.set_cons_succ]); first | done | rfl) (FillS.one (by rfl) (by rfl) (by (try simp only [List.length_append, List.length_set, List.length_cons, List.length_nil]); first | done | decide | omega) (by (try conv => lhs; simp only [List.set_cons_zero, List.set_cons_succ]); first | done | rfl) (FillS.one (by rfl) (by rfl) (by (try simp only [List.length_append, List.length_set, List.length_cons, List.length_nil]); first | done | decide | omega) (by (try conv => lhs; simp only [List.set_cons_zero, List.set_cons_succ]); first | done | rfl) FillS.nil))) | exact FillS.one (by rfl) (by rfl) (by (try simp only [List.length_append, List.length_set, List.length_cons, List.length_nil]); first | done | decide | omega) (by (try conv => lhs; simp only [List.set_cons_zero, List.set_cons_succ]); first | done | rfl) (FillS.one (by rfl) (by rfl) (by (try simp only [List.length_append, List.length_set, List.length_cons, List.length_nil]); first | done | decide | omega) (by (try conv => lhs; simp only [List.set_cons_zero, List.set_cons_succ]); first | done | rfl) (FillS.one (by rfl) (by rfl) (by (try simp only [List.length_append, List.length_set, List.length_cons, List.length_nil]); first | done | decide | omega) (by (try conv => lhs; simp only [List.set_cons_zero, List.set_cons_succ]); first | done | rfl) (FillS.one (by rfl) (by rfl) (by (try simp only [List.length_append, List.length_set, List.length_cons, List.length_nil]); first | done | decide | omega) (by (try conv => lhs; simp only [List.set_cons_zero, List.set_cons_succ]); first | done | rfl) (FillS.one (by rfl) (by rfl) (by (try simp only [List.length_append, List.length_set, List.length_cons, List.length_nil]); first | done | decide | omega) (by (try conv => lhs; simp only [List.set_cons_zero, List.set_cons_succ]); first | done | rfl) FillS.nil)))) | exact FillS.one (by rfl) (by rfl) (by (try simp only [List.length_append, List.length_set, List.length_cons, List.length_nil]); first | done | decide | omega) (by (try conv => lhs; simp only [List.set_cons_zero, List.set_cons_succ]); first | done | rfl) (FillS.one (by rfl) (by rfl) (by (try simp only [List.length_append, List.length_set, List.length_cons, List.length_nil]); first | done | decide | omega) (by (try conv => lhs; simp only [List.set_cons_zero, List.set_cons_succ]); first | done | rfl) (FillS.one (by rfl) (by rfl) (by (try simp only [List.length_append, List.length_set, List.length_cons, List.length_nil]); first | done | decide | omega) (by (try conv => lhs; simp only [List.set_cons_zero, List.set_cons_succ]); first | done | rfl) (FillS.one (by rfl) (by rfl) (by (try simp only [List.length_append, List.length_set, List.length_cons, List.length_nil]); first | done | decide | omega) (by (try conv => lhs; simp only [List.set_cons_zero, List.set_cons_succ]); first | done | rfl) (FillS.one (by rfl) (by rfl) (by (try simp only [List.length_append, List.length_set, List.length_cons, List.length_nil]); first | done | decide | omega) (by (try conv => lhs; simp only [List.set_cons_zero, List.set_cons_succ]); first | done | rfl) (FillS.one (by rfl) (by rfl) (by (try simp only [List.length_append, List.length_set, List.length_cons, List.length_nil]); first | done | decide | omega) (by (try conv => lhs; simp only [List.set_cons_zero, List.set_cons_succ]); first | done | rfl) FillS.nil)))))) (hw : Region.wanted o (yielded ops a.tmps) = true := by rfl) (hd : Dh o = false := by rfl) : W (o :: rest) a w := hStp.go hw hd (r_built hop hp (built_st hT (fill_of hc))) hk
theorem Bk {t : TypeId} {parts : Array (Nat × Operand)} {vs : List (Nat × Value)} {cs : List Value} {n : Nat} {z : List Value} (hStp : Stp P ops W) (hk : W rest (a.put o.dst (.agg cs.toArray)) w) (hop : o.op = .build t parts := by rfl) (hp : evp a parts.toList = some vs := by rfl) (hT : AtT P t n z := by infer_instance) (hc : FillS (fun i => some (i * n, n)) z vs cs := by first | exact FillS.nil | exact FillS.one (by rfl) (by rfl) (by (try simp only [List.length_append, List.length_set, List.length_cons, List.length_nil]); first | done | decide | omega) (by (try conv => lhs; simp only [List.set_cons_zero, List.set_cons_succ]); first | done | rfl) FillS.nil | exact FillS.one (by rfl) (by rfl) (by (try simp only [List.length_append, List.length_set, List.length_cons, List.length_nil]); first | done | decide | omega) (by (try conv => lhs; simp only [List.set_cons_zero, List.set_cons_succ]); first | done | rfl) (FillS.one (by rfl) (by rfl) (by (try simp only [List.length_append, List.length_set, List.length_cons, List.length_nil]); first | done | decide | omega) (by (try conv => lhs; simp only [List.set_cons_zero, List.set_cons_succ]); first | done | rfl) FillS.nil) | exact FillS.one (by rfl) (by rfl) (by (try simp only [List.length_append, List.length_set, List.length_cons, List.length_nil]); first | done | decide | omega) (by (try conv => lhs; simp only [List.set_cons_zero, List.set_cons_succ]); first | done | rfl) (FillS.one (by rfl) (by rfl) (by (try simp only [List.length_append, List.length_set, List.length_cons, List.length_nil]); first | done | decide | omega) (by (try conv => lhs; simp only [List.set_cons_zero, List.set_cons_succ]); first | done | rfl) (FillS.one (by rfl) (by rfl) (by (try simp only [List.length_append, List.length_set, List.length_cons, List.length_nil]); first | done | decide | omega) (by (try conv => lhs; simp only [List.set_cons_zero, List.set_cons_succ]); first | done | rfl) FillS.nil)) | exact FillS.one (by rfl) (by rfl) (by (try simp only [List.length_append, List.length_set, List.length_cons, List.length_nil]); first | done | decide | omega) (by (try conv => lhs; simp only [List.set_cons_zero, List.set_cons_succ]); first | done | rfl) (FillS.one (by rfl) (by rfl) (by (try simp only [List.length_append, List.length_set, List.length_cons, List.length_nil]); first | done | decide | omega) (by (try conv => lhs; simp only [List.set_cons_zero, List.set_cons_succ]); first | done | rfl) (FillS.one (by rfl) (by rfl) (by (try simp only [List.length_append, List.length_set, List.length_cons, List.length_nil]); first | done | decide | omega) (by (try conv => lhs; simp only [List.set_cons_zero, List.set_cons_succ]); first | done | rfl) (FillS.one (by rfl) (by rfl) (by (try simp only [List.length_append, List.length_set, List.length_cons, List.length_nil]); first | done | decide | omega) (by (try conv => lhs; simp only [List.set_cons_zero, List.set_cons_succ]); first | done | rfl) FillS.nil))) | exact FillS.one (by rfl) (by rfl) (by (try simp only [List.length_append, List.length_set, List.length_cons, List.length_nil]); first | done | decide | omega) (by (try conv => lhs; simp only [List.set_cons_zero, List.set_cons_succ]); first | done | rfl) (FillS.one (by rfl) (by rfl) (by (try simp only [List.length_append, List.length_set, List.length_cons, List.length_nil]); first | done | decide | omega) (by (try conv => lhs; simp only [List.set_cons_zero, List.set_cons_succ]); first | done | rfl) (FillS.one (by rfl) (by rfl) (by (try simp only [List.length_append, List.length_set, List.length_cons, List.length_nil]); first | done | decide | omega) (by (try conv => lhs; simp only [List.set_cons_zero, List.set_cons_succ]); first | done | rfl) (FillS.one (by rfl) (by rfl) (by (try simp only [List.length_append, List.length_set, List.length_cons, List.length_nil]); first | done | decide | omega) (by (try conv => lhs; simp only [List.set_cons_zero, List.set_cons_succ]); first | done | rfl) (FillS.one (by rfl) (by rfl) (by (try simp only [List.length_append, List.length_set, List.length_cons, List.length_nil]); first | done | decide | omega) (by (try conv => lhs; simp only [List.set_cons_zero, List.set_cons_succ]); first | done | rfl) FillS.nil)))) | exact FillS.one (by rfl) (by rfl) (by (try simp only [List.length_append, List.length_set, List.length_cons, List.length_nil]); first | done | decide | omega) (by (try conv => lhs; simp only [List.set_cons_zero, List.set_cons_succ]); first | done | rfl) (FillS.one (by rfl) (by rfl) (by (try simp only [List.length_append, List.length_set, List.length_cons, List.length_nil]); first | done | decide | omega) (by (try conv => lhs; simp only [List.set_cons_zero, List.set_cons_succ]); first | done | rfl) (FillS.one (by rfl) (by rfl) (by (try simp only [List.length_append, List.length_set, List.length_cons, List.length_nil]); first | done | decide | omega) (by (try conv => lhs; simp only [List.set_cons_zero, List.set_cons_succ]); first | done | rfl) (FillS.one (by rfl) (by rfl) (by (try simp only [List.length_append, List.length_set, List.length_cons, List.length_nil]); first | done | decide | omega) (by (try conv => lhs; simp only [List.set_cons_zero, List.set_cons_succ]); first | done | rfl) (FillS.one (by rfl) (by rfl) (by (try simp only [List.length_append, List.length_set, List.length_cons, List.length_nil]); first | done | decide | omega) (by (try conv => lhs; simp only [List.set_cons_zero, List.set_cons_succ]); first | done | rfl) (FillS.one (by rfl) (by rfl) (by (try simp only [List.length_append, List.length_set, List.length_cons, List.length_nil]); first | done | decide | omega) (by (try conv => lhs; simp only [List.set_cons_zero, List.set_cons_succ]); first | done | rfl) FillS.nil)))))) (hw : Region.wanted o (yielded ops a.tmps) = true := by rfl) (hd : Dh o = false := by rfl) : W (o :: rest) a w := hStp.go hw hd (r_built hop hp (built_at hT (fill_of hc))) hk
theorem Dg {t : TypeId} {parts : Array (Nat × Operand)} {vs : List (Nat × Value)} {cs : List Value} {pl : List (Nat × Nat)} {z : List Value} (hop : o.op = .build t parts := by rfl) (hp : evp a parts.toList = some vs := by rfl) (hT : StT P t pl z := by infer_instance) (hc : FillS (pl.toArray[·]?) z vs cs := by first | exact FillS.nil | exact FillS.one (by rfl) (by rfl) (by (try simp only [List.length_append, List.length_set, List.length_cons, List.length_nil]); first | done | decide | omega) (by (try conv => lhs; simp only [List.set_cons_zero, List.set_cons_succ]); first | done | rfl) FillS.nil | exact FillS.one (by rfl) (by rfl) (by (try simp only [List.length_append, List.length_set, List.length_cons, List.length_nil]); first | done | decide | omega) (by (try conv => lhs; simp only [List.set_cons_zero, List.set_cons_succ]); first | done | rfl) (FillS.one (by rfl) (by rfl) (by (try simp only [List.length_append, List.length_set, List.length_cons, List.length_nil]); first | done | decide | omega) (by (try conv => lhs; simp only [List.set_cons_zero, List.set_cons_succ]); first | done | rfl) FillS.nil) | exact FillS.one (by rfl) (by rfl) (by (try simp only [List.length_append, List.length_set, List.length_cons, List.length_nil]); first | done | decide | omega) (by (try conv => lhs; simp only [List.set_cons_zero, List.set_cons_succ]); first | done | rfl) (FillS.one (by rfl) (by rfl) (by (try simp only [List.length_append, List.length_set, List.length_cons, List.length_nil]); first | done | decide | omega) (by (try conv => lhs; simp only [List.set_cons_zero, List.set_cons_succ]); first | done | rfl) (FillS.one (by rfl) (by rfl) (by (try simp only [List.length_append, List.length_set, List.length_cons, List.length_nil]); first | done | decide | omega) (by (try conv => lhs; simp only [List.set_cons_zero, List.set_cons_succ]); first | done | rfl) FillS.nil)) | exact FillS.one (by rfl) (by rfl) (by (try simp only [List.length_append, List.length_set, List.length_cons, List.length_nil]); first | done | decide | omega) (by (try conv => lhs; simp only [List.set_cons_zero, List.set_cons_succ]); first | done | rfl) (FillS.one (by rfl) (by rfl) (by (try simp only [List.length_append, List.length_set, List.length_cons, List.length_nil]); first | done | decide | omega) (by (try conv => lhs; simp only [List.set_cons_zero, List.set_cons_succ]); first | done | rfl) (FillS.one (by rfl) (by rfl) (by (try simp only [List.length_append, List.length_set, List.length_cons, List.length_nil]); first | done | decide | omega) (by (try conv => lhs; simp only [List.set_cons_zero, List.set_cons_succ]); first | done | rfl) (FillS.one (by rfl) (by rfl) (by (try simp only [List.length_append, List.length_set, List.length_cons, List.length_nil]); first | done | decide | omega) (by (try conv => lhs; simp only [List.set_cons_zero, List.set_cons_succ]); first | done | rfl) FillS.nil))) | exact FillS.one (by rfl) (by rfl) (by (try simp only [List.length_append, List.length_set, List.length_cons, List.length_nil]); first | done | decide | omega) (by (try conv => lhs; simp only [List.set_cons_zero, List.set_cons_succ]); first | done | rfl) (FillS.one (by rfl) (by rfl) (by (try simp only [List.length_append, List.length_set, List.length_cons, List.length_nil]); first | done | decide | omega) (by (try conv => lhs; simp only [List.set_cons_zero, List.set_cons_succ]); first | done | rfl) (FillS.one (by rfl) (by rfl) (by (try simp only [List.length_append, List.length_set, List.length_cons, List.length_nil]); first | done | decide | omega) (by (try conv => lhs; simp only [List.set_cons_zero, List.set_cons_succ]); first | done | rfl) (FillS.one (by rfl) (by rfl) (by (try simp only [List.length_append, List.length_set, List.length_cons, List.length_nil]); first | done | decide | omega) (by (try conv => lhs; simp only [List.set_cons_zero, List.set_cons_succ]); first | done | rfl) (FillS.one (by rfl) (by rfl) (by (try simp only [List.length_append, List.length_set, List.length_cons, List.length_nil]); first | done | decide | omega) (by (try conv => lhs; simp only [List.set_cons_zero, List.set_cons_succ]); first | done | rfl) FillS.nil)))) | exact FillS.one (by rfl) (by rfl) (by (try simp only [List.length_append, List.length_set, List.length_cons, List.length_nil]); first | done | decide | omega) (by (try conv => lhs; simp only [List.set_cons_zero, List.set_cons_succ]); first | done | rfl) (FillS.one (by rfl) (by rfl) (by (try simp only [List.length_append, List.length_set, List.length_cons, List.length_nil]); first | done | decide | omega) (by (try conv => lhs; simp only [List.set_cons_zero, List.set_cons_succ]); first | done | rfl) (FillS.one (by rfl) (by rfl) (by (try simp only [List.length_append, List.length_set, List.length_cons, List.length_nil]); first | done | decide | omega) (by (try conv => lhs; simp only [List.set_cons_zero, List.set_cons_succ]); first | done | rfl) (FillS.one (by rfl) (by rfl) (by (try simp only [List.length_append, List.length_set, List.length_cons, List.length_nil]); first | done | decide | omega) (by (try conv => lhs; simp only [List.set_cons_zero, List.set_cons_succ]); first | done | rfl) (FillS.one (by rfl) (by rfl) (by (try simp only [List.length_append, List.length_set, List.length_cons, List.length_nil]); first | done | decide | omega) (by (try conv => lhs; simp only [List.set_cons_zero, List.set_cons_succ]); first | done | rfl) (FillS.one (by rfl) (by rfl) (by (try simp only [List.length_append, List.length_set, List.length_cons, List.length_nil]); first | done | decide | omega) (by (try conv => lhs; simp only [List.set_cons_zero, List.set_cons_succ]); first | done | rfl) FillS.nil)))))) : o.quietAt P a C w (.agg cs.toArray) := q_val (r_built hop hp (built_st hT (fill_of hc)))
theorem Df {t : TypeId} {parts : Array (Nat × Operand)} {vs : List (Nat × Value)} {cs : List Value} {n : Nat} {z : List Value} (hop : o.op = .build t parts := by rfl) (hp : evp a parts.toList = some vs := by rfl) (hT : AtT P t n z := by infer_instance) (hc : FillS (fun i => some (i * n, n)) z vs cs := by first | exact FillS.nil | exact FillS.one (by rfl) (by rfl) (by (try simp only [List.length_append, List.length_set, List.length_cons, List.length_nil]); first | done | decide | omega) (by (try conv => lhs; simp only [List.set_cons_zero, List.set_cons_succ]); first | done | rfl) FillS.nil | exact FillS.one (by rfl) (by rfl) (by (try simp only [List.length_append, List.length_set, List.length_cons, List.length_nil]); first | done | decide | omega) (by (try conv => lhs; simp only [List.set_cons_zero, List.set_cons_succ]); first | done | rfl) (FillS.one (by rfl) (by rfl) (by (try simp only [List.length_append, List.length_set, List.length_cons, List.length_nil]); first | done | decide | omega) (by (try conv => lhs; simp only [List.set_cons_zero, List.set_cons_succ]); first | done | rfl) FillS.nil) | exact FillS.one (by rfl) (by rfl) (by (try simp only [List.length_append, List.length_set, List.length_cons, List.length_nil]); first | done | decide | omega) (by (try conv => lhs; simp only [List.set_cons_zero, List.set_cons_succ]); first | done | rfl) (FillS.one (by rfl) (by rfl) (by (try simp only [List.length_append, List.length_set, List.length_cons, List.length_nil]); first | done | decide | omega) (by (try conv => lhs; simp only [List.set_cons_zero, List.set_cons_succ]); first | done | rfl) (FillS.one (by rfl) (by rfl) (by (try simp only [List.length_append, List.length_set, List.length_cons, List.length_nil]); first | done | decide | omega) (by (try conv => lhs; simp only [List.set_cons_zero, List.set_cons_succ]); first | done | rfl) FillS.nil)) | exact FillS.one (by rfl) (by rfl) (by (try simp only [List.length_append, List.length_set, List.length_cons, List.length_nil]); first | done | decide | omega) (by (try conv => lhs; simp only [List.set_cons_zero, List.set_cons_succ]); first | done | rfl) (FillS.one (by rfl) (by rfl) (by (try simp only [List.length_append, List.length_set, List.length_cons, List.length_nil]); first | done | decide | omega) (by (try conv => lhs; simp only [List.set_cons_zero, List.set_cons_succ]); first | done | rfl) (FillS.one (by rfl) (by rfl) (by (try simp only [List.length_append, List.length_set, List.length_cons, List.length_nil]); first | done | decide | omega) (by (try conv => lhs; simp only [List.set_cons_zero, List.set_cons_succ]); first | done | rfl) (FillS.one (by rfl) (by rfl) (by (try simp only [List.length_append, List.length_set, List.length_cons, List.length_nil]); first | done | decide | omega) (by (try conv => lhs; simp only [List.set_cons_zero, List.set_cons_succ]); first | done | rfl) FillS.nil))) | exact FillS.one (by rfl) (by rfl) (by (try simp only [List.length_append, List.length_set, List.length_cons, List.length_nil]); first | done | decide | omega) (by (try conv => lhs; simp only [List.set_cons_zero, List.set_cons_succ]); first | done | rfl) (FillS.one (by rfl) (by rfl) (by (try simp only [List.length_append, List.length_set, List.length_cons, List.length_nil]); first | done | decide | omega) (by (try conv => lhs; simp only [List.set_cons_zero, List.set_cons_succ]); first | done | rfl) (FillS.one (by rfl) (by rfl) (by (try simp only [List.length_append, List.length_set, List.length_cons, List.length_nil]); first | done | decide | omega) (by (try conv => lhs; simp only [List.set_cons_zero, List.set_cons_succ]); first | done | rfl) (FillS.one (by rfl) (by rfl) (by (try simp only [List.length_append, List.length_set, List.length_cons, List.length_nil]); first | done | decide | omega) (by (try conv => lhs; simp only [List.set_cons_zero, List.set_cons_succ]); first | done | rfl) (FillS.one (by rfl) (by rfl) (by (try simp only [List.length_append, List.length_set, List.length_cons, List.length_nil]); first | done | decide | omega) (by (try conv => lhs; simp only [List.set_cons_zero, List.set_cons_succ]); first | done | rfl) FillS.nil)))) | exact FillS.one (by rfl) (by rfl) (by (try simp only [List.length_append, List.length_set, List.length_cons, List.length_nil]); first | done | decide | omega) (by (try conv => lhs; simp only [List.set_cons_zero, List.set_cons_succ]); first | done | rfl) (FillS.one (by rfl) (by rfl) (by (try simp only [List.length_append, List.length_set, List.length_cons, List.length_nil]); first | done | decide | omega) (by (try conv => lhs; simp only [List.set_cons_zero, List.set_cons_succ]); first | done | rfl) (FillS.one (by rfl) (by rfl) (by (try simp only [List.length_append, List.length_set, List.length_cons, List.length_nil]); first | done | decide | omega) (by (try conv => lhs; simp only [List.set_cons_zero, List.set_cons_succ]); first | done | rfl) (FillS.one (by rfl) (by rfl) (by (try simp only [List.length_append, List.length_set, List.length_cons, List.length_nil]); first | done | decide | omega) (by (try conv => lhs; simp only [List.set_cons_zero, List.set_cons_succ]); first | done | rfl) (FillS.one (by rfl) (by rfl) (by (try simp only [List.length_append, List.length_set, List.length_cons, List.length_nil]); first | done | decide | omega) (by (try conv => lhs; simp only [List.set_cons_zero, List.set_cons_succ]); first | done | rfl) (FillS.one (by rfl) (by rfl) (by (try simp only [List.length_append, List.length_set, List.length_cons, List.length_nil]); first | done | decide | omega) (by (try conv => lhs; simp only [List.set_cons_zero, List.set_cons_succ]); first | done | rfl) FillS.nil)))))) : o.quietAt P a C w (.agg cs.toArray) := q_val (r_built hop hp (built_at hT (fill_of hc)))
theorem ones_lit {l : List Value} (h : l.all Value.oneCell' = true) : ones l.toArray = true := by
  unfold ones
  simpa using h
theorem Bb {t : TypeId} {x y : Operand} {n b off : Nat} {cs vs cs' : Array Value} {ty : TypeId} {L' : List Blk} {i : Nat} (hStp : Stp P ops W) (hH : Own B H) (hS : H w L) (hk : ∀ w', H w' L' → W rest (a.put o.dst undef) w') (hop : o.op = .store t x y := by rfl) (hx : evO a x = some (.pointer (some ⟨b, off, none⟩)) := by rfl) (hy : evO a y = some (.agg vs) := by rfl) (h1 : RowT P t n := by infer_instance) (hn : csz vs = n := by (try simp only [Ca, Ce, Bz, List.length_append, List.length_set, zs_len, List.length_take, List.length_drop, List.length_cons, List.length_nil, List.length_map]); first | done | rfl | omega) (hv : ones vs = true := by exact ones_lit (by rfl)) (hi : L[i]? = some (b, cs, ty) := by first | exact at_ 0 rfl | exact at_ 1 rfl | exact at_ 2 rfl | exact at_ 3 rfl | exact at_ 4 rfl | exact at_ 5 rfl | exact at_ 6 rfl | exact at_ 7 rfl | exact at_ 8 rfl | exact at_ 9 rfl | exact at_ 10 rfl | exact at_ 11 rfl | exact at_ 12 rfl | exact at_ 13 rfl) (ho : off + n ≤ csz cs := by (try simp only [Ca, Ce, Bz, List.length_append, List.length_set, zs_len, List.length_take, List.length_drop, List.length_cons, List.length_nil, List.length_map]); first | done | rfl | omega) (hc : paste cs off vs = cs' := by first | exact paste_whole _ _ (by (try simp only [Ca, Ce, Bz, List.length_append, List.length_set, zs_len, List.length_take, List.length_drop, List.length_cons, List.length_nil, List.length_map]); first | done | rfl | omega) | rfl) (hL : L.set i (b, cs', ty) = L' := by (try conv => lhs; simp only [List.setIfInBounds_toArray, List.set_cons_zero, List.set_cons_succ, List.eraseIdx_cons_zero, List.eraseIdx_cons_succ]); first | done | rfl) (hw : Region.wanted o (yielded ops a.tmps) = true := by rfl) : W (o :: rest) a w := s_storeR hStp hH hS hw hop hx hy h1 hn hv hi ho hc hL hk
theorem r_nilCheck {x : Operand} {b off : Nat} (hop : o.op = .nilCheck x) (hx : evO a x = some (.pointer (some ⟨b, off, none⟩))) : (execOp a.eval o).run P w = .ok (.value (.pointer (some ⟨b, off, none⟩))) w := by
  unfold execOp; rw [hop]
  simp only [Ct hx]
  rfl
theorem Aq {x : Operand} {b off : Nat} (hStp : Stp P ops W) (hk : W rest (a.put o.dst (.pointer (some ⟨b, off, none⟩))) w) (hop : o.op = .nilCheck x := by rfl) (hx : evO a x = some (.pointer (some ⟨b, off, none⟩)) := by rfl) (hw : Region.wanted o (yielded ops a.tmps) = true := by rfl) (hd : Dh o = false := by rfl) : W (o :: rest) a w := hStp.go hw hd (r_nilCheck hop hx) hk
theorem Cn {x : Operand} {b off : Nat} (hop : o.op = .nilCheck x := by rfl) (hx : evO a x = some (.pointer (some ⟨b, off, none⟩)) := by rfl) : o.quietAt P a C w (.pointer (some ⟨b, off, none⟩)) := q_val (r_nilCheck hop hx)
/-- clear: of one's own block the cells behind a place. -/
theorem s_clear {x : Operand} {t e size bytes b off n c i : Nat} {cs : Array Value} {ty : TypeId} {pre mid zc : List Value} (hs : Stp P ops W) (hH : Own B H) (hS : H w L) (hw : Region.wanted o (yielded ops a.tmps) = true)
    (hop : o.op = .call { callee := .builtin .clear, args := #[x], argTypes := #[t] }) (hx : evO a x = some (.slice (some ⟨b, off, none⟩) n c)) (hT : SlT P t e size bytes) (hz : ZeroT P e zc.toArray) (hzl : zc.length = size) (hzo : ∀ v ∈ zc, v.oneCell' = true) (hn : 0 < n)
    (hi : L[i]? = some (b, cs, ty)) (hcs : cs.toList = pre ++ mid) (hpre : pre.length = off) (hmid : n * size ≤ mid.length)
    (hk : ∀ (z : List Value) (w' : World), z.length = mid.length → H w' (L.set i (b, (pre ++ z).toArray, ty)) → W rest (a.put o.dst (.tuple #[])) w') : W (o :: rest) a w := by
  obtain ⟨ht, inf, z, hie, hz1, hsz, hby, hzs, hps⟩ := elemB_iff hT.is
  obtain ⟨z', hr1, hz2⟩ := run_zero (w := w) hz.is
  have hd : Dh o = false := by unfold Dh; rw [hop]
  have hb := hH.blk i hS hi
  have hcl : (Builtin.zeroCells zc.toArray n).toList.length = n * size := by rw [Array.length_toList, size_zeroCells]; simp [hzl]
  have hone : ∀ v ∈ (Builtin.zeroCells zc.toArray n).toList, v.oneCell' = true := by
    intro v hv
    obtain ⟨k, hk2, rfl⟩ := List.getElem_of_mem hv
    rw [hcl] at hk2
    simp only [Builtin.zeroCells, Array.getElem_toList, Array.getElem_map, Array.getElem_range]
    have hlt : k % zc.toArray.size < zc.length := by simp only [List.size_toArray]; exact Nat.mod_lt _ (by rw [hzl]; exact hps)
    have : zc.toArray[k % zc.toArray.size]! = zc[k % zc.toArray.size] := by
      rw [getElem!_pos zc.toArray _ (by simpa using hlt)]
      simp
    rw [this]
    exact hzo _ (List.getElem_mem _)
  have hcsz : cs.size = off + mid.length := by rw [← Array.length_toList, hcs, List.length_append, hpre]
  have hst := run_storeCells_at (P := P) b off ty (Builtin.zeroCells zc.toArray n).toList 0 cs w hb (by rw [hcl, hcsz]; omega) hone
  have hn0 : n ≠ 0 := by omega
  have hrun : (execOp a.eval o).run P w = .ok (.value (.tuple #[])) (w.setRow b (splice cs (off + 0) (Builtin.zeroCells zc.toArray n).toList.toArray)) := by
    unfold execOp; rw [hop]
    simp only [resolve, Sem.run_bind, Sem.run_pure, Result.andThen_ok, invoke, builtin]
    have e1 : #[x].map a.eval = #[.slice (some ⟨b, off, none⟩) n c] := by simp [Ct hx]
    rw [e1]
    obtain ⟨m, rfl⟩ : ∃ m, n = m + 1 := ⟨n - 1, by omega⟩
    simp only [Builtin.clear_, Sem.run_bind, Sem.run_pure, List.getElem?_toArray, List.getElem?_cons_zero, run_underlying ht, Result.andThen_ok, hr1, hz2, hst]
  refine hs.go hw hd hrun ?_
  have hrow : splice cs (off + 0) (Builtin.zeroCells zc.toArray n).toList.toArray = (pre ++ ((Builtin.zeroCells zc.toArray n).toList ++ mid.drop (n * size))).toArray := by
    unfold splice
    rw [hcs, Nat.add_zero, ← hpre, List.take_left, List.append_assoc]
    congr 3
    rw [List.drop_append, List.drop_of_length_le (by omega), List.nil_append]
    congr 1
    have : (Builtin.zeroCells zc.toArray n).size = n * size := by simpa using hcl
    simp [this]
  rw [hrow]
  exact hk _ _ (by rw [List.length_append, hcl, List.length_drop]; omega) (hH.setRow i _ hS hi)
/-- A field of a struct, then its own cells: where a row lies within a struct that came in as one value. -/
theorem r_shr1 {x : Operand} {t t' : TypeId} {n : Nat} {q : Int} (hop : o.op = .binOp .shr t x (.const (.int .u64 1)) t') (hx : evO a x = some (.int .u64 (n : Int))) (hq : ((n / 2 : Nat) : Int) = q) (_hn : n < 18446744073709551616) : (execOp a.eval o).run P w = .ok (.value (.int .u64 q)) w := by
  unfold execOp; rw [hop]; subst hq
  simp [Ct hx, eqGuard, binOp, Op.shift, show a.eval (.const (.int .u64 1)) = .int .u64 1 from rfl]
  rw [show (2 : Int) ^ min 1 IntKind.u64.bits = 2 from rfl, Int.fdiv_eq_ediv_of_nonneg _ (by decide)]
end
end Go.Proofs.Ytkfggilildiflac

namespace Go.Proofs.Ytkfggilildiflac
open Go.RowKit
set_option maxRecDepth 100000

instance : ZeroT Try.prog 7 #[.int .i64 0, .int .i64 0, .bool false, .int .u8 0] := ⟨by kernel_rfl⟩
instance : StT Try.prog 7 [(0, 1), (1, 1), (2, 1), (3, 1)] [.int .i64 0, .int .i64 0, .bool false, .int .u8 0] := ⟨by kernel_rfl⟩
instance : ZeroT Try.prog 8 #[.int .i64 0, .int .i64 0, .bool false, .int .u8 0] := ⟨by kernel_rfl⟩
instance : StT Try.prog 8 [(0, 1), (1, 1), (2, 1), (3, 1)] [.int .i64 0, .int .i64 0, .bool false, .int .u8 0] := ⟨by kernel_rfl⟩
instance : ZeroT Try.prog 13 #[.string ⟨#[]⟩, .int .u64 0] := ⟨by kernel_rfl⟩
instance : StT Try.prog 13 [(0, 1), (1, 1)] [.string ⟨#[]⟩, .int .u64 0] := ⟨by kernel_rfl⟩
instance : ZeroT Try.prog 14 #[.string ⟨#[]⟩, .int .u64 0] := ⟨by kernel_rfl⟩
instance : StT Try.prog 14 [(0, 1), (1, 1)] [.string ⟨#[]⟩, .int .u64 0] := ⟨by kernel_rfl⟩
instance : ZeroT Try.prog 18 #[.pointer none] := ⟨by kernel_rfl⟩
instance : StT Try.prog 18 [(0, 1)] [.pointer none] := ⟨by kernel_rfl⟩
instance : ZeroT Try.prog 19 #[.pointer none] := ⟨by kernel_rfl⟩
instance : StT Try.prog 19 [(0, 1)] [.pointer none] := ⟨by kernel_rfl⟩
instance : ZeroT Try.prog 23 #[.slice none 0 0, .int .i64 0, .int .i64 0, .bool false, .int .i64 0] := ⟨by kernel_rfl⟩
instance : StT Try.prog 23 [(0, 1), (1, 1), (2, 1), (3, 1), (4, 1)] [.slice none 0 0, .int .i64 0, .int .i64 0, .bool false, .int .i64 0] := ⟨by kernel_rfl⟩
instance : ZeroT Try.prog 24 #[.slice none 0 0, .int .i64 0, .int .i64 0, .bool false, .int .i64 0] := ⟨by kernel_rfl⟩
instance : StT Try.prog 24 [(0, 1), (1, 1), (2, 1), (3, 1), (4, 1)] [.slice none 0 0, .int .i64 0, .int .i64 0, .bool false, .int .i64 0] := ⟨by kernel_rfl⟩
instance : ZeroT Try.prog 25 #[.int .i64 0, .int .i64 0, .int .i64 0, .int .i64 0, .int .i64 0, .bool false] := ⟨by kernel_rfl⟩
instance : StT Try.prog 25 [(0, 1), (1, 1), (2, 1), (3, 1), (4, 1), (5, 1)] [.int .i64 0, .int .i64 0, .int .i64 0, .int .i64 0, .int .i64 0, .bool false] := ⟨by kernel_rfl⟩
instance : ZeroT Try.prog 26 #[.int .i64 0, .int .i64 0, .int .i64 0, .int .i64 0, .int .i64 0, .bool false] := ⟨by kernel_rfl⟩
instance : StT Try.prog 26 [(0, 1), (1, 1), (2, 1), (3, 1), (4, 1), (5, 1)] [.int .i64 0, .int .i64 0, .int .i64 0, .int .i64 0, .int .i64 0, .bool false] := ⟨by kernel_rfl⟩
instance : ZeroT Try.prog 38 #[.int .i64 0, .int .i64 0] := ⟨by kernel_rfl⟩
instance : StT Try.prog 38 [(0, 1), (1, 1)] [.int .i64 0, .int .i64 0] := ⟨by kernel_rfl⟩
instance : ZeroT Try.prog 39 #[.int .i64 0, .int .i64 0] := ⟨by kernel_rfl⟩
instance : StT Try.prog 39 [(0, 1), (1, 1)] [.int .i64 0, .int .i64 0] := ⟨by kernel_rfl⟩
instance : ZeroT Try.prog 73 #[.string ⟨#[]⟩, .string ⟨#[]⟩, .string ⟨#[]⟩, .string ⟨#[]⟩, .string ⟨#[]⟩, .string ⟨#[]⟩, .string ⟨#[]⟩] := ⟨by kernel_rfl⟩
instance : AtT Try.prog 73 1 [.string ⟨#[]⟩, .string ⟨#[]⟩, .string ⟨#[]⟩, .string ⟨#[]⟩, .string ⟨#[]⟩, .string ⟨#[]⟩, .string ⟨#[]⟩] := ⟨by kernel_rfl⟩
instance : ZeroT Try.prog 74 #[.int .i64 0, .int .i64 0] := ⟨by kernel_rfl⟩
instance : AtT Try.prog 74 1 [.int .i64 0, .int .i64 0] := ⟨by kernel_rfl⟩
instance : ZeroT Try.prog 83 #[.slice none 0 0] := ⟨by kernel_rfl⟩
instance : StT Try.prog 83 [(0, 1)] [.slice none 0 0] := ⟨by kernel_rfl⟩
instance : ZeroT Try.prog 84 #[.slice none 0 0] := ⟨by kernel_rfl⟩
instance : StT Try.prog 84 [(0, 1)] [.slice none 0 0] := ⟨by kernel_rfl⟩
instance : ZeroT Try.prog 106 #[.pointer none, .pointer none, .pointer none, .string ⟨#[]⟩] := ⟨by kernel_rfl⟩
instance : StT Try.prog 106 [(0, 1), (1, 1), (2, 1), (3, 1)] [.pointer none, .pointer none, .pointer none, .string ⟨#[]⟩] := ⟨by kernel_rfl⟩
instance : ZeroT Try.prog 107 #[.pointer none, .pointer none, .pointer none, .string ⟨#[]⟩] := ⟨by kernel_rfl⟩
instance : StT Try.prog 107 [(0, 1), (1, 1), (2, 1), (3, 1)] [.pointer none, .pointer none, .pointer none, .string ⟨#[]⟩] := ⟨by kernel_rfl⟩
instance : ZeroT Try.prog 119 #[.int .u64 0, .int .u64 0, .int .u32 0, .int .u8 0, .int .u8 0, .int .u8 0, .int .u8 0, .nilFunc, .pointer none, .int .i32 0, .int .i32 0] := ⟨by kernel_rfl⟩
instance : StT Try.prog 119 [(0, 1), (1, 1), (2, 1), (3, 1), (4, 1), (5, 1), (6, 1), (7, 1), (8, 1), (9, 1), (10, 1)] [.int .u64 0, .int .u64 0, .int .u32 0, .int .u8 0, .int .u8 0, .int .u8 0, .int .u8 0, .nilFunc, .pointer none, .int .i32 0, .int .i32 0] := ⟨by kernel_rfl⟩
instance : ZeroT Try.prog 120 #[.int .u64 0, .int .u64 0, .int .u32 0, .int .u8 0, .int .u8 0, .int .u8 0, .int .u8 0, .nilFunc, .pointer none, .int .i32 0, .int .i32 0] := ⟨by kernel_rfl⟩
instance : StT Try.prog 120 [(0, 1), (1, 1), (2, 1), (3, 1), (4, 1), (5, 1), (6, 1), (7, 1), (8, 1), (9, 1), (10, 1)] [.int .u64 0, .int .u64 0, .int .u32 0, .int .u8 0, .int .u8 0, .int .u8 0, .int .u8 0, .nilFunc, .pointer none, .int .i32 0, .int .i32 0] := ⟨by kernel_rfl⟩

end Go.Proofs.Ytkfggilildiflac
