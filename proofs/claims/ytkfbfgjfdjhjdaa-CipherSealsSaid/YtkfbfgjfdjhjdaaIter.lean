/-
  A range over a function: an iterator's contract in a form that speaks of the loop's own blocks alone, and the law for the loop. Lemmas alone, no condition of their own.
-/
import Derived.Test.YtkfbfgjfdjhjdaaTail
import Derived.RangeFuncCalls
import Derived.RangeFuncLeaves
import Derived.RangeFuncRecord
import Derived.OwnWalkIn
import Derived.TacticsInMore
import Derived.LoopNIn
import Derived.LoopIn
import Derived.Sort.LoopGhostIn
namespace Go.Proofs.Ytkfbfgjfdjhjdaa
open Go.RowKit

@[go_sem] theorem wide_fn (f : FuncId) : Fence.wide.fn f = True := rfl
@[go_sem] theorem wide_fn_r (l : Nat) (f : FuncId) : (Fence.wide.inRound l).fn f = True := rfl
@[go_sem] theorem wide_depth : Fence.wide.depth = none := rfl
@[go_sem] theorem wide_depth_r (l : Nat) : (Fence.wide.inRound l).depth = none := rfl
/-- These blocks hold these objects, and no block stands twice. -/
def Holds (W : World) (L : List (Nat × Obj)) : Prop := (∀ x ∈ L, W.heap[x.1]? = some x.2) ∧ (L.map (·.1)).Nodup
/-- Nothing that lay has turned, but for these blocks. -/
structure Kept (B : List Nat) (W W' : World) : Prop where
  os : W'.os = W.os
  tape : W'.tape = W.tape
  output : W'.output = W.output
  size : W.heap.size ≤ W'.heap.size
  block : ∀ k, k < W.heap.size → k ∉ B → W'.heap[k]? = W.heap[k]?
theorem Kept.refl (B : List Nat) (W : World) : Kept B W W := ⟨rfl, rfl, rfl, Nat.le_refl _, fun _ _ _ => rfl⟩
theorem Kept.of_below {B : List Nat} {W W' : World} (h : Below W.heap.size W W') : Kept B W W' := ⟨h.os, h.tape, h.output, h.size, fun k hk _ => h.block k hk⟩
theorem Kept.trans {B C : List Nat} {W W1 W2 : World} (h : Kept B W W1) (k : Kept C W1 W2) (hc : ∀ b ∈ C, b ∈ B ∨ W.heap.size ≤ b) : Kept B W W2 :=
  ⟨k.os.trans h.os, k.tape.trans h.tape, k.output.trans h.output, Nat.le_trans h.size k.size, fun b hb hn => by
    have h1 := h.size
    refine (k.block b (by omega) (fun hm => ?_)).trans (h.block b hb hn)
    rcases hc b hm with h | h
    · exact hn h
    · omega⟩
theorem Kept.below {B : List Nat} {W W' : World} {n : Nat} (h : Kept B W W') (hn : n ≤ W.heap.size) (hB : ∀ b ∈ B, n ≤ b) : Below n W W' :=
  ⟨h.os, h.tape, h.output, h.size, fun k hk => h.block k (by omega) (fun hm => by have := hB k hm; omega)⟩
/-- A step of the loop: its blocks behind it; all else lies as it lay; a new one of them is a new block. -/
structure Rd (L : List (Nat × Obj)) (W : World) (L' : List (Nat × Obj)) (W' : World) : Prop where
  holds : Holds W' L'
  kept : Kept (L.map (·.1)) W W'
  fresh : ∀ x ∈ L', x.1 ∈ L.map (·.1) ∨ W.heap.size ≤ x.1
theorem Rd.refl {L : List (Nat × Obj)} {W : World} (h : Holds W L) : Rd L W L W := ⟨h, .refl _ _, fun x hx => .inl (List.mem_map.2 ⟨x, hx, rfl⟩)⟩
theorem Rd.trans {L L1 L2 : List (Nat × Obj)} {W W1 W2 : World} (h : Rd L W L1 W1) (k : Rd L1 W1 L2 W2) : Rd L W L2 W2 := by
  have hs := h.kept.size
  refine ⟨k.holds, h.kept.trans k.kept (fun b hb => ?_), fun x hx => ?_⟩
  · obtain ⟨y, hy, rfl⟩ := List.mem_map.1 hb
    exact h.fresh y hy
  · rcases k.fresh x hx with hm | hm
    · obtain ⟨y, hy, he⟩ := List.mem_map.1 hm
      rw [← he]; exact h.fresh y hy
    · exact .inr (by omega)
theorem Holds.lt {W : World} {L : List (Nat × Obj)} (h : Holds W L) {x : Nat × Obj} (hx : x ∈ L) : x.1 < W.heap.size := (Array.getElem?_eq_some_iff.1 (h.1 x hx)).1
theorem Holds.kept {W W' : World} {L : List (Nat × Obj)} {B : List Nat} (h : Holds W L) (k : Kept B W W') (hB : ∀ x ∈ L, x.1 ∉ B) : Holds W' L :=
  ⟨fun x hx => (k.block _ (h.lt hx) (hB x hx)).trans (h.1 x hx), h.2⟩
/-- What calls lay: the loop's blocks are as they were. -/
theorem Rd.call {L : List (Nat × Obj)} {W W' : World} (h : Holds W L) (hb : Below W.heap.size W W') : Rd L W L W' :=
  ⟨h.kept (B := []) (Kept.of_below hb) (fun _ _ => List.not_mem_nil), Kept.of_below hb, fun x hx => .inl (List.mem_map.2 ⟨x, hx, rfl⟩)⟩
/-- A block that is none of the loop's is as it was. -/
theorem Rd.far {L L' : List (Nat × Obj)} {W W' : World} (h : Rd L W L' W') {b : Nat} {o : Obj} (hb : W.heap[b]? = some o) (hn : b ∉ L.map (·.1)) : W'.heap[b]? = some o ∧ b ∉ L'.map (·.1) := by
  have hlt := (Array.getElem?_eq_some_iff.1 hb).1
  refine ⟨(h.kept.block b hlt hn).trans hb, fun hm => ?_⟩
  obtain ⟨x, hx, he⟩ := List.mem_map.1 hm
  rcases h.fresh x hx with h1 | h1
  · exact hn (he ▸ h1)
  · omega

/-- One block more of one's own, laid in front: the iterator's own, which no round may turn. -/
theorem Rd.farCells {L L' : List (Nat × Obj)} {W W' : World} (h : Rd L W L' W') {b : Nat} {cs : Array Value} {t : TypeId} {fr : Nat × Nat} (hb : blk W b = some (.cells cs t fr)) (hn : b ∉ L.map (·.1)) :
    blk W' b = some (.cells cs t fr) ∧ (∀ o, W'.cell? ⟨b, o, none⟩ = cs[o]?) ∧ b < W'.heap.size := by
  have h1 : blk W' b = some (.cells cs t fr) := (h.far hb hn).1
  exact ⟨h1, fun o => cell_of_row W' b o cs t _ h1, blk_lt h1⟩

/-- **An iterator's contract.** It hands 'els 0', 'els 1', .. to the rounds, so many if N says how many, else without an end. R: blocks that it reads. -/
def IterAt (P : Program) (gf : Nat) (lb : Array Value) (els : Nat → Array Value) (N : Option Nat) (R : List Nat) (W0 : World) : Prop :=
  ∀ (l : Nat) (J : Nat → List (Nat × Obj) → Prop) (Jx : List (Nat × Obj) → Prop) (M : Nat) (W : World) (L0 : List (Nat × Obj)),
    Below W0.heap.size W0 W → (∀ b ∈ R, b ∉ L0.map (·.1)) → (N = none → ∀ k L, J k L → k < M) → J 0 L0 → Holds W L0 →
    (∀ k L W1, J k L → Rd L0 W L W1 → (∀ n, N = some n → k < n) →
      YieldAt Fence.wide 0 P l (els k) W1 fun e W2 => ∃ L2, Rd L W1 L2 W2 ∧ ((e = .returned (.bool true) ∧ J (k + 1) L2) ∨ (e = .returned (.bool false) ∧ Jx L2))) →
    Calls P gf (#[.func (.yield l) #[] #[]] ++ lb) W fun e W' => (∃ v, e = .returned v) ∧ ∃ L', Rd L0 W L' W' ∧ ((∃ n, N = some n ∧ J n L') ∨ Jx L')

/-- One's own blocks of cells, as objects. -/
def objs (L : List (Nat × Array Value × TypeId)) : List (Nat × Obj) := L.map fun x => (x.1, .cells x.2.1 x.2.2)
theorem objs_keys (L : List (Nat × Array Value × TypeId)) : (objs L).map (·.1) = L.map (·.1) := by simp [objs, Function.comp]
theorem Holds.cells {W : World} {L : List (Nat × Array Value × TypeId)} (h : Holds W (objs L)) (i : Nat) {b : Nat} {cs : Array Value} {t : TypeId} (hi : L[i]? = some (b, cs, t)) :
    blk W b = some (.cells cs t (0, 0)) ∧ (∀ o, W.cell? ⟨b, o, none⟩ = cs[o]?) ∧ (∀ o, W.frozen? ⟨b, o, none⟩ = false) ∧ b < W.heap.size ∧ ¬ b = W.heap.size := by
  have h1 : blk W b = some (.cells cs t (0, 0)) := h.1 (b, .cells cs t) (List.mem_map.2 ⟨_, List.mem_of_getElem? hi, rfl⟩)
  have h2 := blk_lt h1
  exact ⟨h1, fun o => cell_of_row W b o cs t _ h1, fun o => frozen_of_row W b o cs t h1, h2, by omega⟩

/-- A round's walk, from where it began: its blocks (L0 then, L now). -/
structure In (L0 : List (Nat × Array Value × TypeId)) (W0 : World) (L : List (Nat × Array Value × TypeId)) (W : World) : Prop where
  rd : Rd (objs L0) W0 (objs L) W
theorem In.start {L : List (Nat × Array Value × TypeId)} {W : World} (h : Holds W (objs L)) : In L W L W := ⟨.refl h⟩
theorem In.at {L0 L : List (Nat × Array Value × TypeId)} {W0 W : World} (h : In L0 W0 L W) (i : Nat) {b : Nat} {cs : Array Value} {t : TypeId} (hi : L[i]? = some (b, cs, t)) :
    blk W b = some (.cells cs t (0, 0)) ∧ (∀ o, W.cell? ⟨b, o, none⟩ = cs[o]?) ∧ (∀ o, W.frozen? ⟨b, o, none⟩ = false) ∧ b < W.heap.size ∧ ¬ b = W.heap.size := h.rd.holds.cells i hi
theorem In.call {L0 L : List (Nat × Array Value × TypeId)} {W0 W W' : World} (h : In L0 W0 L W) (hb : Below W.heap.size W W') : In L0 W0 L W' := ⟨h.rd.trans (.call h.rd.holds hb)⟩
theorem In.alloc {L0 L : List (Nat × Array Value × TypeId)} {W0 W : World} (h : In L0 W0 L W) (cs : Array Value) (t : TypeId) : In L0 W0 ((W.heap.size, cs, t) :: L) (W.alloc (.cells cs t)) := by
  refine ⟨h.rd.trans ⟨⟨fun x hx => ?_, ?_⟩, Kept.of_below ((Below.refl _ _).alloc (Nat.le_refl _) _), fun x hx => ?_⟩⟩
  · rcases List.mem_cons.1 hx with rfl | hx
    · exact World.alloc_heap_new _ _
    · exact (Below.heap_alloc _ _ _ (h.rd.holds.lt hx)).trans (h.rd.holds.1 x hx)
  · have := h.rd.holds.2
    rw [objs_keys] at this ⊢
    simp only [List.map_cons, List.nodup_cons]
    refine ⟨fun hm => ?_, this⟩
    obtain ⟨x, hx, he⟩ := List.mem_map.1 hm
    have := h.rd.holds.lt (x := (x.1, .cells x.2.1 x.2.2)) (List.mem_map.2 ⟨x, hx, rfl⟩)
    simp only at this
    omega
  · rcases List.mem_cons.1 hx with rfl | hx
    · exact .inr (Nat.le_refl _)
    · exact .inl (List.mem_map.2 ⟨x, hx, rfl⟩)
theorem In.alloc' {L0 L : List (Nat × Array Value × TypeId)} {W0 W : World} {n : Nat} {cs : Array Value} {t : TypeId} (h : In L0 W0 L W) (hn : n = W.heap.size) : In L0 W0 ((n, cs, t) :: L) (W.alloc (.cells cs t)) := by
  subst hn; exact h.alloc cs t
theorem In.setRow {L0 L : List (Nat × Array Value × TypeId)} {W0 W : World} (h : In L0 W0 L W) (i : Nat) {b : Nat} {cs : Array Value} {t : TypeId} (hi : L[i]? = some (b, cs, t)) (cs' : Array Value) : In L0 W0 (L.set i (b, cs', t)) (W.setRow b cs') := by
  have hil : i < L.length := (List.getElem?_eq_some_iff.1 hi).1
  have hm := h.at i hi
  have hk : (L.set i (b, cs', t)).map (·.1) = L.map (·.1) := by
    rw [List.map_set]
    have : b = (L.map (·.1))[i]'(by simpa using hil) := by
      have := (List.getElem?_eq_some_iff.1 hi).2
      simp [this]
    simp only [this, List.set_getElem_self]
  have hnd : (L.map (·.1)).Nodup := by have := h.rd.holds.2; rwa [objs_keys] at this
  refine ⟨h.rd.trans ⟨⟨fun x hx => ?_, ?_⟩, ⟨rfl, rfl, rfl, by simp, fun k hk2 hn => setRow_other W b k cs' (fun e => ?_)⟩, fun x hx => .inl ?_⟩⟩
  · obtain ⟨y, hy, rfl⟩ := List.mem_map.1 hx
    obtain ⟨j, hj, rfl⟩ := List.getElem_of_mem hy
    simp only [List.length_set] at hj
    rw [List.getElem_set]
    split
    · exact blk_setRow_same hm.1 _
    · rename_i hij
      have h2 := h.at j (List.getElem?_eq_getElem hj)
      refine (setRow_other W b _ cs' (fun he => ?_)).trans h2.1
      have e1 : (L.map (·.1))[i]'(by simpa using hil) = b := by
        have := (List.getElem?_eq_some_iff.1 hi).2
        simp [this]
      have e2 : (L.map (·.1))[j]'(by simpa using hj) = b := by simp only [List.getElem_map]; exact he
      exact hij ((List.getElem_inj hnd).1 (e1.trans e2.symm))
  · rw [objs_keys, hk]; exact hnd
  · subst e; exact hn (by rw [objs_keys]; exact List.mem_map.2 ⟨_, List.mem_of_getElem? hi, rfl⟩)
  · have : x.1 ∈ (objs (L.set i (b, cs', t))).map (·.1) := List.mem_map.2 ⟨x, hx, rfl⟩
    rwa [objs_keys, hk, ← objs_keys] at this
theorem In.setCell {L0 L : List (Nat × Array Value × TypeId)} {W0 W : World} (h : In L0 W0 L W) (i : Nat) {b : Nat} {cs : Array Value} {t : TypeId} (hi : L[i]? = some (b, cs, t)) (o : Nat) (v : Value) : In L0 W0 (L.set i (b, cs.setIfInBounds o v, t)) (W.setCell ⟨b, o, none⟩ v) := by
  rw [setCell_eq_setRow W b o cs t (0, 0) v (h.at i hi).1]
  exact h.setRow i hi _
theorem In.tail {L0 L : List (Nat × Array Value × TypeId)} {x : Nat × Array Value × TypeId} {W0 W : World} (h : In L0 W0 (x :: L) W) : In L0 W0 L W := by
  refine ⟨⟨⟨fun y hy => h.rd.holds.1 y (List.mem_cons_of_mem _ hy), ?_⟩, h.rd.kept, fun y hy => h.rd.fresh y (List.mem_cons_of_mem _ hy)⟩⟩
  have := h.rd.holds.2
  rw [objs_keys] at this ⊢
  exact (List.nodup_cons.1 (by simpa using this)).2

/-- How a round's body may be left: it goes on, or by a jump. -/
def roundEnd (I : List (Nat × Array Value × TypeId) → Prop) (Ix : Code → List (Nat × Array Value × TypeId) → Prop) (L0 : List (Nat × Array Value × TypeId)) (W0 : World) : Exit → Act → World → Prop
  | .normal, _, W => ∃ L, In L0 W0 L W ∧ I L
  | .ret, _, W => ∃ L, In L0 W0 L W ∧ Ix .ret L
  | .exit id, _, W => ∃ L, In L0 W0 L W ∧ Ix (.exit id) L
  | .goto t, _, W => ∃ L, In L0 W0 L W ∧ Ix (.goto t) L
  | .panic _, _, _ => False
  | .outgrown, _, _ => False

/-- Blocks beside the loop's: they lie as they lay. -/
theorem Rd.frame {E L L2 : List (Nat × Obj)} {W W3 : World} (h : Rd L W L2 W3) (hE : Holds W (E ++ L)) : Rd (E ++ L) W (E ++ L2) W3 := by
  have hd := hE.2
  rw [List.map_append, List.nodup_append] at hd
  refine ⟨⟨fun x hx => ?_, ?_⟩, ⟨h.kept.os, h.kept.tape, h.kept.output, h.kept.size, fun k hk hn => h.kept.block k hk (fun hm => hn (by rw [List.map_append]; exact List.mem_append_right _ hm))⟩, fun x hx => ?_⟩
  · rcases List.mem_append.1 hx with hx | hx
    · have hxE : x ∈ E ++ L := List.mem_append_left _ hx
      refine (h.kept.block _ (hE.lt hxE) (fun hm => ?_)).trans (hE.1 x hxE)
      exact hd.2.2 _ (List.mem_map.2 ⟨x, hx, rfl⟩) _ hm rfl
    · exact h.holds.1 x hx
  · rw [List.map_append, List.nodup_append]
    refine ⟨hd.1, h.holds.2, fun a ha b hb he => ?_⟩
    subst he
    obtain ⟨x, hx, rfl⟩ := List.mem_map.1 ha
    obtain ⟨y, hy, he⟩ := List.mem_map.1 hb
    rcases h.fresh y hy with h1 | h1
    · exact hd.2.2 _ ha _ (he ▸ h1) rfl
    · have := hE.lt (List.mem_append_left L hx)
      omega
  · rcases List.mem_append.1 hx with hx | hx
    · exact .inl (List.mem_map.2 ⟨x, List.mem_append_left _ hx, rfl⟩)
    · rcases h.fresh x hx with h1 | h1
      · exact .inl (by rw [List.map_append]; exact List.mem_append_right _ h1)
      · exact .inr h1
theorem in_of_full {E0 E : List (Nat × Obj)} {L0 L : List (Nat × Array Value × TypeId)} {w W1 W : World} (hb : Below w.heap.size w W1) (hk : E.map (·.1) = E0.map (·.1)) (hE : ∀ x ∈ E0, w.heap.size ≤ x.1) (h : Rd (E0 ++ objs L0) W1 (E ++ objs L) W) : In L0 w L W := by
  have hnd := h.holds.2
  rw [List.map_append, List.nodup_append] at hnd
  have hs := hb.size
  refine ⟨⟨⟨fun x hx => h.holds.1 x (List.mem_append_right _ hx), hnd.2.1⟩, ⟨h.kept.os.trans hb.os, h.kept.tape.trans hb.tape, h.kept.output.trans hb.output, Nat.le_trans hs h.kept.size, fun k hk2 hn => ?_⟩, fun x hx => ?_⟩⟩
  · refine (h.kept.block k (by omega) (fun hm => ?_)).trans (hb.block k hk2)
    rw [List.map_append, List.mem_append] at hm
    rcases hm with hm | hm
    · obtain ⟨y, hy, rfl⟩ := List.mem_map.1 hm
      have := hE y hy; omega
    · exact hn hm
  · rcases h.fresh x (List.mem_append_right _ hx) with h1 | h1
    · rw [List.map_append, List.mem_append] at h1
      rcases h1 with h1 | h1
      · rw [← hk] at h1
        exact (hnd.2.2 _ h1 _ (List.mem_map.2 ⟨x, hx, rfl⟩) rfl).elim
      · exact .inl h1
    · exact .inr (by omega)
/-- The first block of the list becomes another object. -/
theorem Rd.put {L0 L : List (Nat × Obj)} {W0 W : World} {l : Nat} {o : Obj} (h : Rd L0 W0 ((l, o) :: L) W) (o' : Obj) : Rd L0 W0 ((l, o') :: L) (W.putObj l o') := by
  have hlt := h.holds.lt (List.mem_cons_self ..)
  have hnd := h.holds.2
  simp only [List.map_cons, List.nodup_cons] at hnd
  refine h.trans ⟨⟨fun x hx => ?_, by simpa using hnd⟩, ⟨rfl, rfl, rfl, by simp, fun k hk2 hn => World.putObj_heap_other (fun e => hn (by simp [e]))⟩, fun x hx => .inl ?_⟩
  · rcases List.mem_cons.1 hx with rfl | hx
    · exact World.putObj_heap_same hlt
    · exact (World.putObj_heap_other (fun e => hnd.1 (by rw [← e]; exact List.mem_map.2 ⟨x, hx, rfl⟩))).trans (h.holds.1 x (List.mem_cons_of_mem _ hx))
  · have : x.1 ∈ ((l, o') :: L).map (·.1) := List.mem_map.2 ⟨x, hx, rfl⟩
    simpa using this

/-- **The loop 'for .. := range g { .. }' over an iterator that has its contract.** -/
theorem wp_range {P : Program} {g : Operand} {ps : Array Tmp} {assign body : Code} {Q : Exit → Act → World → Prop} {a : Act} {w : World}
    {gf : Nat} {lb : Array Value} (hg : a.eval g = .func (.func gf) #[] lb) (eg : ∀ args w, (callFunc gf args).run P w = .ok (.enter gf args) w)
    {els : Nat → Array Value} {N : Option Nat} {R : List Nat} {W0 : World} (hit : IterAt P gf lb els N R W0) (hb0 : Below W0.heap.size W0 w) (hps : ∀ k, (els k).size = ps.size)
    (I : Nat → List (Nat × Array Value × TypeId) → Prop) (Ix : Code → List (Nat × Array Value × TypeId) → Prop) (M : Nat) (hM : N = none → ∀ k L, I k L → k < M)
    (L0 : List (Nat × Array Value × TypeId)) (h0 : I 0 L0) (hH : Holds w (objs L0)) (hR : ∀ b ∈ R, b < w.heap.size ∧ b ∉ L0.map (·.1)) (a₁ : Nat → Act)
    (hassign : ∀ (l k : Nat) (W : World) (K : Act → World → Prop), K (a₁ k) W →
      assign.wpIn (Fence.wide.inRound l) 0 P (Exit.then K (fun _ _ _ => False)) { tmps := (ps.zip (els k)).foldl (fun t (p, v) => t.setIfInBounds p v) a.tmps, defers := [] } W)
    (hbody : ∀ (l k : Nat) (L : List (Nat × Array Value × TypeId)) (W : World), I k L → In L0 w L W → (∀ n, N = some n → k < n) → body.wpIn (Fence.wide.inRound l) 0 P (roundEnd (I (k + 1)) Ix L W) (a₁ k) W)
    (hdone : ∀ (D n : Nat) (L : List (Nat × Array Value × TypeId)) (W : World), N = some n → I n L → In L0 w L W → W.heap[D]? = some (.deferred (some [])) → w.heap.size ≤ D → Q .normal { a with defers := { target := .collected D, args := #[] } :: a.defers } W)
    (hstop : ∀ (D : Nat) (c : Code) (L : List (Nat × Array Value × TypeId)) (W : World), Ix c L → In L0 w L W → W.heap[D]? = some (.deferred (some [])) → w.heap.size ≤ D → c.wp P Q { a with defers := { target := .collected D, args := #[] } :: a.defers } W) :
    (Code.rangeFunc g ps assign body).wp P Q a w := by
  refine (wpIn_wide (n := 0)).1 (wpIn_rangeFunc ?_)
  intro fn hfn
  obtain ⟨rec, hrec⟩ : ∃ rec : LoopState → Option Code → Loop, rec = fun st pe => { state := st, pending := pe, fn, tmps := a.tmps, params := ps, assign, body, defers := w.heap.size } := ⟨_, rfl⟩
  obtain ⟨W1, hW1⟩ : ∃ W1, (w.alloc (.deferred (some []))).alloc (.loop (rec .ready none)) = W1 := ⟨_, rfl⟩
  have hL1 : W1.heap[w.heap.size + 1]? = some (.loop (rec .ready none)) := by
    rw [← hW1]; have := World.alloc_heap_new (w.alloc (.deferred (some []))) (.loop (rec .ready none)); rwa [World.size_alloc] at this
  have hK1 : W1.heap[w.heap.size]? = some (.deferred (some [])) := by
    rw [← hW1]; exact (Below.heap_alloc _ _ _ (by simp)).trans (World.alloc_heap_new w _)
  have hbW : Below w.heap.size w W1 := by rw [← hW1]; exact ((Below.refl _ w).alloc (Nat.le_refl _) _).alloc (by simp) _
  have hb1 : Below W0.heap.size W0 W1 := hb0.trans (hbW.mono hb0.size)
  have hHk : Holds W1 (objs L0) := hH.kept (B := []) (Kept.of_below hbW) (fun _ _ => List.not_mem_nil)
  have hn1 : ∀ m, w.heap.size ≤ m → m ∉ L0.map (·.1) := fun m hm0 hm => by
    rw [← objs_keys] at hm
    obtain ⟨x, hx, he⟩ := List.mem_map.1 hm
    have := hH.lt hx; omega
  have hF0 : Holds W1 ([(w.heap.size + 1, .loop (rec .ready none)), (w.heap.size, .deferred (some []))] ++ objs L0) := by
    refine ⟨fun x hx => ?_, ?_⟩
    · simp only [List.cons_append, List.nil_append, List.mem_cons] at hx
      rcases hx with rfl | rfl | hx
      · exact hL1
      · exact hK1
      · exact hHk.1 x hx
    · have := hH.2
      rw [objs_keys] at this
      simp only [List.cons_append, List.nil_append, List.map_cons, objs_keys, List.nodup_cons, List.mem_cons, not_or]
      exact ⟨⟨by omega, hn1 _ (by omega)⟩, hn1 _ (Nat.le_refl _), this⟩
  have hE0 : ∀ x ∈ [(w.heap.size + 1, Obj.loop (rec .ready none)), (w.heap.size, .deferred (some []))], w.heap.size ≤ x.1 := by
    intro x hx
    simp only [List.mem_cons, List.not_mem_nil, or_false] at hx
    rcases hx with rfl | rfl
    · exact Nat.le_succ _
    · exact Nat.le_refl _
  refine ⟨w.heap.size + 1, [{ target := .collected w.heap.size, args := #[] }], W1, { target := .fn (.func gf) lb, args := #[.func (.yield (w.heap.size + 1)) #[] #[]] }, W1, gf,
    #[.func (.yield (w.heap.size + 1)) #[] #[]] ++ lb, W1, ?_, ?_, fun _ _ => trivial, ?_, (fun h => by cases h), ?_⟩
  · rw [← hW1, hrec]; exact run_enterLoop_outer _ _ _ _ _
  · simp only [resolve, hg]
    simp [go_sem]
  · simp [invoke, go_sem, eg]
  · refine callsIn_wide.2 ?_
    refine (hit (w.heap.size + 1)
      (fun k L' => ∃ L, L' = [(w.heap.size + 1, .loop (rec .ready none)), (w.heap.size, .deferred (some []))] ++ objs L ∧ I k L)
      (fun L' => ∃ L c, L' = [(w.heap.size + 1, .loop (rec .done (some c))), (w.heap.size, .deferred (some []))] ++ objs L ∧ Ix c L)
      M W1 ([(w.heap.size + 1, .loop (rec .ready none)), (w.heap.size, .deferred (some []))] ++ objs L0) hb1 ?_ ?_ ⟨L0, rfl, h0⟩ hF0 ?_).mono ?_
    · intro b hb
      obtain ⟨h1, h2⟩ := hR b hb
      simp only [List.cons_append, List.nil_append, List.map_cons, objs_keys, List.mem_cons, not_or]
      exact ⟨by omega, by omega, h2⟩
    · rintro hN k L' ⟨L, _, hI⟩; exact hM hN k L hI
    · -- ONE ROUND
      rintro k L' W ⟨L, rfl, hI⟩ hRd hkn
      have hl : W.heap[w.heap.size + 1]? = some (.loop (rec .ready none)) := hRd.holds.1 _ (List.mem_cons_self ..)
      have hy := run_yield (P := P) (args := els k) hl (by rw [hrec]; exact hps k)
      rw [hrec] at hy
      refine ⟨fn, _, assign, body, hy, roundIn_of_wpIn hfn (hassign _ k W _ ⟨_, run_beginRound hl (by rw [hrec]), ?_⟩)⟩
      have hRd2 := Rd.put (L := (w.heap.size, .deferred (some [])) :: objs L) hRd (.loop { rec .ready none with state := .busy })
      have hs2 := Rd.put (L := (w.heap.size, .deferred (some [])) :: objs L) (Rd.refl hRd.holds) (.loop { rec .ready none with state := .busy })
      generalize W.putObj (w.heap.size + 1) (.loop { rec .ready none with state := .busy }) = W2 at *
      have hIn : In L0 w L W2 := in_of_full (E0 := [(w.heap.size + 1, .loop (rec .ready none)), (w.heap.size, .deferred (some []))]) (E := [(w.heap.size + 1, .loop { rec .ready none with state := .busy }), (w.heap.size, .deferred (some []))]) hbW rfl hE0 hRd2
      refine wpIn_mono (hbody _ k L W2 hI hIn hkn) ?_
      have fin : ∀ (jump : Option Code) (L2 : List (Nat × Array Value × TypeId)) (W3 : World), In L W2 L2 W3 →
          ∃ W4, (Instr.endRound (w.heap.size + 1) jump).run P W3 = .ok (.bool jump.isNone) W4 ∧
            Rd ([(w.heap.size + 1, .loop (rec .ready none)), (w.heap.size, .deferred (some []))] ++ objs L) W ([(w.heap.size + 1, .loop (rec (if jump.isNone then .ready else .done) jump)), (w.heap.size, .deferred (some []))] ++ objs L2) W4 := fun jump L2 W3 h3 => by
        have hf := Rd.frame (E := [(w.heap.size + 1, .loop { rec .ready none with state := .busy }), (w.heap.size, .deferred (some []))]) h3.rd hRd2.holds
        have hl3 : W3.heap[w.heap.size + 1]? = some (.loop { rec .ready none with state := .busy }) := hf.holds.1 _ (List.mem_cons_self ..)
        have hr := run_endRound (P := P) jump hl3
        refine ⟨_, hr, ?_⟩
        have h5 := Rd.put (L := (w.heap.size, .deferred (some [])) :: objs L2) (hs2.trans hf) (.loop (rec (if jump.isNone then .ready else .done) jump))
        rw [hrec] at h5 ⊢
        exact h5
      rintro e a3 W3 hp
      cases e with
      | normal =>
        obtain ⟨L2, h3, hi3⟩ := hp
        obtain ⟨W4, hr, h4⟩ := fin none L2 W3 h3
        exact ⟨_, _, hr, _, h4, .inl ⟨rfl, L2, rfl, hi3⟩⟩
      | ret =>
        obtain ⟨L2, h3, hi3⟩ := hp
        obtain ⟨W4, hr, h4⟩ := fin (some .ret) L2 W3 h3
        exact ⟨_, _, hr, _, h4, .inr ⟨rfl, L2, .ret, rfl, hi3⟩⟩
      | exit id =>
        obtain ⟨L2, h3, hi3⟩ := hp
        obtain ⟨W4, hr, h4⟩ := fin (some (.exit id)) L2 W3 h3
        exact ⟨_, _, hr, _, h4, .inr ⟨rfl, L2, .exit id, rfl, hi3⟩⟩
      | goto t =>
        obtain ⟨L2, h3, hi3⟩ := hp
        obtain ⟨W4, hr, h4⟩ := fin (some (.goto t)) L2 W3 h3
        exact ⟨_, _, hr, _, h4, .inr ⟨rfl, L2, .goto t, rfl, hi3⟩⟩
      | panic ch => exact hp.elim
      | outgrown => exact hp.elim
    · -- BEHIND THE ITERATOR
      rintro e W2 ⟨⟨v, rfl⟩, L', hRd, (⟨n, hN, L, rfl, hI⟩ | ⟨L, c, rfl, hI⟩)⟩
      · have hl : W2.heap[w.heap.size + 1]? = some (.loop (rec .ready none)) := hRd.holds.1 _ (List.mem_cons_self ..)
        have hr := run_endLoop (P := P) hl (by rw [hrec]; simp)
        have hR2 := Rd.put (L := (w.heap.size, .deferred (some [])) :: objs L) hRd (.loop (rec .exhausted (none)))
        rw [show ({ rec .ready none with state := .exhausted } : Loop) = rec .exhausted (none) by rw [hrec], show (rec .ready none).pending = none by rw [hrec]] at hr
        refine ⟨none, _, hr, ?_⟩
        exact hdone w.heap.size n L _ hN hI (in_of_full (E0 := [(w.heap.size + 1, .loop (rec .ready none)), (w.heap.size, .deferred (some []))]) (E := [(w.heap.size + 1, .loop (rec .exhausted (none))), (w.heap.size, .deferred (some []))]) hbW rfl hE0 hR2) (hR2.holds.1 _ (List.mem_cons_of_mem _ (List.mem_cons_self ..))) (Nat.le_refl _)
      · have hl : W2.heap[w.heap.size + 1]? = some (.loop (rec .done (some c))) := hRd.holds.1 _ (List.mem_cons_self ..)
        have hr := run_endLoop (P := P) hl (by rw [hrec]; simp)
        have hR2 := Rd.put (L := (w.heap.size, .deferred (some [])) :: objs L) hRd (.loop (rec .exhausted (some c)))
        rw [show ({ rec .done (some c) with state := .exhausted } : Loop) = rec .exhausted (some c) by rw [hrec], show (rec .done (some c)).pending = some c by rw [hrec]] at hr
        refine ⟨some c, _, hr, ?_⟩
        exact (wpIn_wide (n := 0)).2 (hstop w.heap.size c L _ hI (in_of_full (E0 := [(w.heap.size + 1, .loop (rec .ready none)), (w.heap.size, .deferred (some []))]) (E := [(w.heap.size + 1, .loop (rec .exhausted (some c))), (w.heap.size, .deferred (some []))]) hbW rfl hE0 hR2) (hR2.holds.1 _ (List.mem_cons_of_mem _ (List.mem_cons_self ..))) (Nat.le_refl _))
theorem St.holds {w0 wr : World} {L : List (Nat × Array Value × TypeId)} (h : St w0 wr L) : Holds wr (objs L) := by
  refine ⟨fun x hx => ?_, by rw [objs_keys]; exact h.2.2⟩
  obtain ⟨y, hy, rfl⟩ := List.mem_map.1 hx
  exact (h.2.1 y hy).2
/-- Behind a loop, or in one of its rounds: the blocks of one's own. -/
theorem St.range {w0 w W : World} {L0 L : List (Nat × Array Value × TypeId)} (h : St w0 w L0) (h2 : In L0 w L W) : St w0 W L := by
  have hs := h.1.size
  refine ⟨h.1.trans (h2.rd.kept.below hs (fun b hb => ?_)), fun x hx => ⟨?_, h2.rd.holds.1 (x.1, .cells x.2.1 x.2.2) (List.mem_map.2 ⟨x, hx, rfl⟩)⟩, by have := h2.rd.holds.2; rwa [objs_keys] at this⟩
  · rw [objs_keys] at hb
    obtain ⟨x, hx, rfl⟩ := List.mem_map.1 hb
    exact (h.2.1 x hx).1
  · rcases h2.rd.fresh (x.1, .cells x.2.1 x.2.2) (List.mem_map.2 ⟨x, hx, rfl⟩) with h3 | h3
    · rw [objs_keys] at h3
      obtain ⟨y, hy, he⟩ := List.mem_map.1 h3
      rw [← he]; exact (h.2.1 y hy).1
    · exact Nat.le_trans hs h3
/-- A round's own walk begins. -/
theorem In.round {L0 L : List (Nat × Array Value × TypeId)} {w W : World} (h : In L0 w L W) : In L W L W := .start h.rd.holds
/-- The block of the rounds' deferred calls is shut: one's own blocks stay. -/
theorem St.shut {w0 wr : World} {L : List (Nat × Array Value × TypeId)} (h : St w0 wr L) {D : Nat} {o : Obj} (hD : wr.heap[D]? = some o) (hc : ∀ c t f, o ≠ .cells c t f) (h0 : w0.heap.size ≤ D) (o' : Obj) : St w0 (wr.putObj D o') L := by
  refine ⟨h.1.trans ⟨rfl, rfl, rfl, by simp, fun k hk => World.putObj_heap_other (by omega)⟩, fun x hx => ⟨(h.2.1 x hx).1, ?_⟩, h.2.2⟩
  refine (World.putObj_heap_other (fun e => ?_)).trans (h.2.1 x hx).2
  have := (h.2.1 x hx).2
  rw [e] at this
  have h2 : wr.heap[D]? = some (.cells x.2.1 x.2.2 (0, 0)) := this
  rw [hD] at h2
  exact hc _ _ _ (Option.some.inj h2)
end Go.Proofs.Ytkfbfgjfdjhjdaa
