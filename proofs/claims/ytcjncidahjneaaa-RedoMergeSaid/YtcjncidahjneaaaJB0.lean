/-
  Laws that the claims of this seat use, of several texts in one: Tail, Gw, Mono, Iter, MonoR, Grow, Num. No condition of their own.
-/
import Derived.RangeFuncCalls
import Derived.RangeFuncLeaves
import Derived.RangeFuncRecord
import Derived.OwnWalkIn
import Derived.TacticsInMore
import Derived.LoopNIn
import Derived.LoopIn
import Derived.Sort.LoopGhostIn
import Derived.Maps.AppendAt
import Derived.Laws.AppendOwnNone
import Derived.OwnWalk
import Derived.Great.BuildSlice
import Derived.Laws.IdiomStrings
import Derived.Lib.BufferRead
import Derived.Test.YtcjncidahjneaaaJA0

namespace Go.Proofs.Ytcjncidahjneaaa
open Go.RowKit

section
variable {P : Program} {md : Region.Mode} {C : World → Prop}

theorem ready_none {ops : Array Oper} {Q : Exit → Act → World → Prop} {listed : Array Bool} {a : Act} {w : World} (hr : Region.ready md ops listed = []) (hQ : Q .normal a w) : ∀ fuel, wpAny P md ops Q fuel listed a w
  | 0 => ⟨hr, hQ⟩
  | _ + 1 => ⟨fun _ => hQ, fun i hi => by rw [hr] at hi; cases hi⟩

/-- Every operation waits for earlier ones alone. -/
def downB (md : Region.Mode) (l : List Oper) : Bool := (List.range l.length).all fun i => match l[i]? with | some o => o.after.all fun e => !Region.binds md e || decide (e.on < i) | none => true
theorem some_ready {l : List Oper} (hd : downB md l = true) {listed : Array Bool} (hsz : listed.size = l.length) : ∀ m, m < l.length → listed.getD m true = false → Region.ready md l.toArray listed ≠ [] := by
  intro m
  induction m using Nat.strongRecOn with
  | _ m ih =>
    intro hm hun
    have ho : l.toArray[m]? = some l[m] := by simp [hm]
    by_cases hall : ∀ e ∈ l[m].after, Region.binds md e = true → listed.getD e.on false = true
    · intro h0
      have : m ∈ Region.ready md l.toArray listed := mem_ready.2 ⟨hun, l[m], ho, hall⟩
      rw [h0] at this; cases this
    · simp only [Classical.not_forall] at hall
      obtain ⟨e, he, hb, hl⟩ := hall
      have h1 := List.all_eq_true.1 hd m (List.mem_range.2 hm)
      rw [List.getElem?_eq_getElem hm] at h1
      have h2 := Array.all_eq_true_iff_forall_mem.1 h1 e he
      simp only [hb, Bool.not_true, Bool.false_or, decide_eq_true_eq] at h2
      refine ih e.on h2 (by omega) ?_
      have h3 : e.on < listed.size := by omega
      simp only [Array.getD, h3, dif_pos] at hl ⊢
      simpa using hl

end

/-! ### The blocks of one's own, in a world of which no more is known -/
/-- Since one's own call began nothing has turned below; and of one's own blocks these hold these cells. -/
def St (w0 wr : World) (L : List (Nat × Array Value × TypeId)) : Prop :=
  Below w0.heap.size w0 wr ∧ (∀ x ∈ L, w0.heap.size ≤ x.1 ∧ blk wr x.1 = some (.cells x.2.1 x.2.2 (0, 0))) ∧ (L.map (·.1)).Nodup
theorem St.below {w0 wr : World} {L : List (Nat × Array Value × TypeId)} (h : St w0 wr L) : Below w0.heap.size w0 wr := h.1
theorem St.blk {w0 wr : World} {L : List (Nat × Array Value × TypeId)} (h : St w0 wr L) (i : Nat) {b : Nat} {cs : Array Value} {t : TypeId} (hi : L[i]? = some (b, cs, t)) : Go.Proofs.Ytcjncidahjneaaa.blk wr b = some (.cells cs t (0, 0)) :=
  (h.2.1 _ (List.mem_of_getElem? hi)).2
theorem St.at {w0 wr : World} {L : List (Nat × Array Value × TypeId)} (h : St w0 wr L) (i : Nat) {b : Nat} {cs : Array Value} {t : TypeId} (hi : L[i]? = some (b, cs, t)) :
    Go.Proofs.Ytcjncidahjneaaa.blk wr b = some (.cells cs t (0, 0)) ∧ (∀ o, wr.cell? ⟨b, o, none⟩ = cs[o]?) ∧ (∀ o, wr.frozen? ⟨b, o, none⟩ = false) ∧ b < wr.heap.size ∧ ¬ b = wr.heap.size := by
  have h1 := h.blk i hi
  have h2 := blk_lt h1
  exact ⟨h1, fun o => cell_of_row wr b o cs t _ h1, fun o => frozen_of_row wr b o cs t h1, h2, by omega⟩
theorem St.call {w0 wr w1 : World} {L : List (Nat × Array Value × TypeId)} (h : St w0 wr L) (hb : Below wr.heap.size wr w1) : St w0 w1 L :=
  ⟨chain h.1 h.1.size hb, fun x hx => ⟨(h.2.1 x hx).1, (hb.block _ (blk_lt (h.2.1 x hx).2)).trans (h.2.1 x hx).2⟩, h.2.2⟩
theorem St.cls {w0 wr w1 : World} {L : List (Nat × Array Value × TypeId)} (h : St w0 wr L) (hb : Cls wr w1) : St w0 w1 L := h.call hb
theorem St.drewN {w0 wr : World} {L : List (Nat × Array Value × TypeId)} (h : St w0 wr L) (n : Nat) : St w0 (wr.drewN n) L := h.call ⟨rfl, rfl, rfl, Nat.le_refl _, fun _ _ => rfl⟩
theorem St.alloc {w0 wr : World} {L : List (Nat × Array Value × TypeId)} (h : St w0 wr L) (cs : Array Value) (t : TypeId) : St w0 (wr.alloc (.cells cs t)) ((wr.heap.size, cs, t) :: L) := by
  have h1 : St w0 (wr.alloc (.cells cs t)) L := h.call ((Below.refl _ _).alloc (Nat.le_refl _) _)
  refine ⟨h1.1, fun x hx => ?_, ?_⟩
  · rcases List.mem_cons.1 hx with rfl | hx
    · exact ⟨h.1.size, by rw [blk_alloc, if_pos rfl]⟩
    · exact h1.2.1 x hx
  · simp only [List.map_cons, List.nodup_cons]
    refine ⟨fun hm => ?_, h.2.2⟩
    obtain ⟨x, hx, he⟩ := List.mem_map.1 hm
    have := blk_lt (h.2.1 x hx).2
    omega
theorem St.start (w : World) : St w w [] := ⟨Below.refl _ _, fun _ h => (List.not_mem_nil h).elim, List.nodup_nil⟩
theorem St.setRow {w0 wr : World} {L : List (Nat × Array Value × TypeId)} (h : St w0 wr L) (i : Nat) {b : Nat} {cs : Array Value} {t : TypeId} (hi : L[i]? = some (b, cs, t)) (cs' : Array Value) : St w0 (wr.setRow b cs') (L.set i (b, cs', t)) := by
  have hm := h.2.1 _ (List.mem_of_getElem? hi)
  have hil : i < L.length := (List.getElem?_eq_some_iff.1 hi).1
  refine ⟨below_setRow' h.1 hm.1 _, fun x hx => ?_, ?_⟩
  · obtain ⟨j, hj, rfl⟩ := List.getElem_of_mem hx
    rw [List.getElem_set]
    split
    · exact ⟨hm.1, blk_setRow_same hm.2 _⟩
    · rename_i hij
      simp only [List.length_set] at hj
      have hx2 := h.2.1 L[j] (List.getElem_mem hj)
      refine ⟨hx2.1, ?_⟩
      rw [blk_setRow]
      · exact hx2.2
      · intro he
        have hn := h.2.2
        have e1 : (L.map (·.1))[i]'(by simpa using hil) = b := by
          have := (List.getElem?_eq_some_iff.1 hi).2
          simp [this]
        have e2 : (L.map (·.1))[j]'(by simpa using hj) = b := by simp [he]
        exact hij ((List.getElem_inj hn).1 (e1.trans e2.symm))
  · have e : (L.set i (b, cs', t)).map (·.1) = L.map (·.1) := by
      rw [List.map_set]
      have : b = (L.map (·.1))[i]'(by simpa using hil) := by
        have := (List.getElem?_eq_some_iff.1 hi).2
        simp [this]
      simp only [this, List.set_getElem_self]
    rw [e]; exact h.2.2
theorem St.setCell {w0 wr : World} {L : List (Nat × Array Value × TypeId)} (h : St w0 wr L) (i : Nat) {b : Nat} {cs : Array Value} {t : TypeId} (hi : L[i]? = some (b, cs, t)) (o : Nat) (v : Value) : St w0 (wr.setCell ⟨b, o, none⟩ v) (L.set i (b, cs.setIfInBounds o v, t)) := by
  rw [setCell_eq_setRow wr b o cs t (0, 0) v (h.blk i hi)]
  exact h.setRow i hi _
theorem St.tail {w0 wr : World} {x : Nat × Array Value × TypeId} {L : List (Nat × Array Value × TypeId)} (h : St w0 wr (x :: L)) : St w0 wr L :=
  ⟨h.1, fun y hy => h.2.1 y (List.mem_cons_of_mem _ hy), (List.nodup_cons.1 (by simpa using h.2.2)).2⟩
/-- A block that came in is as it was. -/
theorem St.far {w0 wr : World} {L : List (Nat × Array Value × TypeId)} (h : St w0 wr L) {b : Nat} {cs : Array Value} {t : TypeId} {fr : Nat × Nat} (hb : Go.Proofs.Ytcjncidahjneaaa.blk w0 b = some (.cells cs t fr)) :
    Go.Proofs.Ytcjncidahjneaaa.blk wr b = some (.cells cs t fr) ∧ (∀ o, wr.cell? ⟨b, o, none⟩ = cs[o]?) ∧ b < w0.heap.size ∧ b < wr.heap.size ∧ ¬ b = wr.heap.size := by
  have h1 : Go.Proofs.Ytcjncidahjneaaa.blk wr b = some (.cells cs t fr) := (h.1.block b (blk_lt hb)).trans hb
  have h2 := blk_lt hb
  have h3 := h.1.size
  exact ⟨h1, fun o => cell_of_row wr b o cs t _ h1, h2, by omega, by omega⟩
theorem St.apart {w0 wr : World} {L : List (Nat × Array Value × TypeId)} (h : St w0 wr L) {b : Nat} (hb : b < w0.heap.size) (i : Nat) {g : Nat} {cs : Array Value} {t : TypeId} (hi : L[i]? = some (g, cs, t)) : ¬ b = g := by
  have := (h.2.1 _ (List.mem_of_getElem? hi)).1
  simp only at this
  omega
end Go.Proofs.Ytcjncidahjneaaa

namespace Go.Proofs.Ytcjncidahjneaaa
open Go.RowKit

/-- What a call has laid. -/
structure Laid where
  objs : Array Obj
  drawn : Nat
/-- How many blocks there are, under a name that the walk does not open. -/
def Laid.n (g : Laid) : Nat := g.objs.size
/-- The world with what a call has laid. -/
def grow (w : World) (g : Laid) : World := { w with heap := w.heap ++ g.objs, drawn := g.drawn }
/-- A block of one's own, written whole. -/
def putRow (w : World) (b : Nat) (cs : Array Value) (t : TypeId) : World := { w with heap := w.heap.setIfInBounds b (.cells cs t (0, 0)) }

theorem grow_heap (w : World) (g : Laid) (k : Nat) (h : k < w.heap.size) : (grow w g).heap[k]? = w.heap[k]? := by
  show (w.heap ++ g.objs)[k]? = _
  rw [Array.getElem?_append, if_pos h]
@[go_sem] theorem grow_size (w : World) (g : Laid) : (grow w g).heap.size = w.heap.size + g.n := by simp [grow, Laid.n]
theorem grow_below (w : World) (g : Laid) : Below w.heap.size w (grow w g) := ⟨rfl, rfl, rfl, by rw [grow_size]; omega, fun k hk => grow_heap w g k hk⟩
@[go_sem] theorem grow_cell (w : World) (g : Laid) (n i : Nat) (hn : n < w.heap.size) : (grow w g).cell? ⟨n, i, none⟩ = w.cell? ⟨n, i, none⟩ := (grow_below w g).cell (p := ⟨n, i, none⟩) hn
@[go_sem] theorem grow_frozen (w : World) (g : Laid) (n i : Nat) (hn : n < w.heap.size) : (grow w g).frozen? ⟨n, i, none⟩ = w.frozen? ⟨n, i, none⟩ := (grow_below w g).frozen (p := ⟨n, i, none⟩) hn
@[go_sem] theorem grow_blk (w : World) (g : Laid) (n : Nat) (hn : n < w.heap.size) : blk (grow w g) n = blk w n := grow_heap w g n hn
@[go_sem high] theorem alloc_blk_past (w : World) (o : Obj) (n : Nat) (hn : n < w.heap.size) : blk (w.alloc o) n = blk w n := Below.heap_alloc w o n hn
@[go_sem] theorem grow_drew (w : World) (g : Laid) : grow w.drew g = grow w g := rfl
@[go_sem] theorem grow_drewN (w : World) (n : Nat) (g : Laid) : grow (w.drewN n) g = grow w g := rfl
@[go_sem] theorem grow_shape (w : World) (g : Laid) (n : Nat) (hn : n < w.heap.size) : (grow w g).shape? n = w.shape? n := by
  unfold World.shape?
  rw [grow_heap w g n hn]
theorem modify_append {a b : Array Obj} {n : Nat} (h : n < a.size) (f : Obj → Obj) : (a ++ b).modify n f = a.modify n f ++ b := by
  apply Array.ext_getElem?
  intro k
  simp only [Array.getElem?_modify, Array.getElem?_append, Array.size_modify]
  by_cases hk : k < a.size
  · simp only [hk, if_true]
  · have : n ≠ k := by omega
    simp only [hk, if_false, this]
@[go_sem] theorem grow_setCell (w : World) (g : Laid) (n i : Nat) (v : Value) (hn : n < w.heap.size) : (grow w g).setCell ⟨n, i, none⟩ v = grow (w.setCell ⟨n, i, none⟩ v) g := by
  unfold World.setCell grow
  simp only
  congr 1
  exact modify_append hn _
@[go_sem] theorem grow_setRow (w : World) (g : Laid) (n : Nat) (cs : Array Value) (hn : n < w.heap.size) : (grow w g).setRow n cs = grow (w.setRow n cs) g := by
  unfold World.setRow grow
  simp only
  congr 1
  exact modify_append hn _

/-! ### Blocks written in front -/
@[go_sem] theorem put_size (w : World) (b : Nat) (cs : Array Value) (t : TypeId) : (putRow w b cs t).heap.size = w.heap.size := by simp [putRow]
theorem put_heap_other (w : World) (b k : Nat) (cs : Array Value) (t : TypeId) (h : ¬ k = b) : (putRow w b cs t).heap[k]? = w.heap[k]? := by
  show (w.heap.setIfInBounds b _)[k]? = _
  rw [Array.getElem?_setIfInBounds_ne (fun e => h e.symm)]
theorem put_heap_same (w : World) (b : Nat) (cs : Array Value) (t : TypeId) (h : b < w.heap.size) : (putRow w b cs t).heap[b]? = some (.cells cs t (0, 0)) := by
  show (w.heap.setIfInBounds b _)[b]? = _
  rw [Array.getElem?_setIfInBounds_self_of_lt h]
@[go_sem] theorem put_blk_other (w : World) (b n : Nat) (cs : Array Value) (t : TypeId) (h : ¬ n = b) : blk (putRow w b cs t) n = blk w n := put_heap_other w b n cs t h
@[go_sem] theorem put_blk_same (w : World) (b : Nat) (cs : Array Value) (t : TypeId) (h : b < w.heap.size) : blk (putRow w b cs t) b = some (.cells cs t (0, 0)) := put_heap_same w b cs t h
@[go_sem] theorem put_cell_other (w : World) (b n i : Nat) (cs : Array Value) (t : TypeId) (h : ¬ n = b) : (putRow w b cs t).cell? ⟨n, i, none⟩ = w.cell? ⟨n, i, none⟩ := World.cell?_of_block (w := w) (a := ⟨n, i, none⟩) (put_heap_other w b n cs t h)
@[go_sem] theorem put_cell_same (w : World) (b i : Nat) (cs : Array Value) (t : TypeId) (h : b < w.heap.size) : (putRow w b cs t).cell? ⟨b, i, none⟩ = cs[i]? := cell_of_row _ b i cs t _ (put_heap_same w b cs t h)
@[go_sem] theorem put_frozen_other (w : World) (b n i : Nat) (cs : Array Value) (t : TypeId) (h : ¬ n = b) : (putRow w b cs t).frozen? ⟨n, i, none⟩ = w.frozen? ⟨n, i, none⟩ := World.frozen?_of_block (w := w) (a := ⟨n, i, none⟩) (put_heap_other w b n cs t h)
@[go_sem] theorem put_frozen_same (w : World) (b i : Nat) (cs : Array Value) (t : TypeId) (h : b < w.heap.size) : (putRow w b cs t).frozen? ⟨b, i, none⟩ = false := frozen_of_row _ b i cs t (put_heap_same w b cs t h)
@[go_sem] theorem put_drew (w : World) (b : Nat) (cs : Array Value) (t : TypeId) : putRow w.drew b cs t = (putRow w b cs t).drew := rfl
@[go_sem] theorem put_drewN (w : World) (n b : Nat) (cs : Array Value) (t : TypeId) : putRow (w.drewN n) b cs t = (putRow w b cs t).drewN n := rfl
@[go_sem] theorem put_setRow_same (w : World) (b : Nat) (cs cs' : Array Value) (t : TypeId) : (putRow w b cs t).setRow b cs' = putRow w b cs' t := by
  unfold World.setRow putRow
  simp only
  congr 1
  apply Array.ext_getElem?
  intro k
  simp only [Array.getElem?_modify]
  by_cases hk : b = k
  · subst hk
    rw [if_pos rfl]
    by_cases hb : b < w.heap.size
    · rw [Array.getElem?_setIfInBounds_self_of_lt hb, Array.getElem?_setIfInBounds_self_of_lt hb]; rfl
    · rw [Array.getElem?_eq_none (by simp; omega), Array.getElem?_eq_none (by simp; omega)]; rfl
  · rw [if_neg hk, Array.getElem?_setIfInBounds_ne hk, Array.getElem?_setIfInBounds_ne hk]
@[go_sem] theorem put_setCell_same (w : World) (b i : Nat) (cs : Array Value) (t : TypeId) (v : Value) (h : b < w.heap.size) : (putRow w b cs t).setCell ⟨b, i, none⟩ v = putRow w b (cs.setIfInBounds i v) t := by
  rw [setCell_eq_setRow _ b i cs t (0, 0) v (put_heap_same w b cs t h), put_setRow_same]
theorem modify_set {a : Array Obj} {n b : Nat} (h : ¬ n = b) (o : Obj) (f : Obj → Obj) : (a.setIfInBounds b o).modify n f = (a.modify n f).setIfInBounds b o := by
  apply Array.ext_getElem?
  intro k
  by_cases hk : n = k
  · subst hk
    have hb : b ≠ n := fun e => h e.symm
    rw [Array.getElem?_modify, if_pos rfl, Array.getElem?_setIfInBounds_ne hb, Array.getElem?_setIfInBounds_ne hb, Array.getElem?_modify, if_pos rfl]
  · rw [Array.getElem?_modify, if_neg hk]
    by_cases hb : b = k
    · subst hb
      by_cases hs : b < a.size
      · rw [Array.getElem?_setIfInBounds_self_of_lt hs, Array.getElem?_setIfInBounds_self_of_lt (by simpa using hs)]
      · rw [Array.getElem?_eq_none (by simp; omega), Array.getElem?_eq_none (by simp; omega)]
    · rw [Array.getElem?_setIfInBounds_ne hb, Array.getElem?_setIfInBounds_ne hb, Array.getElem?_modify, if_neg hk]
@[go_sem] theorem put_setRow_other (w : World) (b n : Nat) (cs cs' : Array Value) (t : TypeId) (h : ¬ n = b) : (putRow w b cs t).setRow n cs' = putRow (w.setRow n cs') b cs t := by
  unfold World.setRow putRow
  simp only
  congr 1
  exact modify_set h _ _
@[go_sem] theorem put_setCell_other (w : World) (b n i : Nat) (cs : Array Value) (t : TypeId) (v : Value) (h : ¬ n = b) : (putRow w b cs t).setCell ⟨n, i, none⟩ v = putRow (w.setCell ⟨n, i, none⟩ v) b cs t := by
  unfold World.setCell putRow
  simp only
  congr 1
  exact modify_set h _ _
theorem put_self {w : World} {b : Nat} {cs : Array Value} {t : TypeId} (h : blk w b = some (.cells cs t (0, 0))) : w = putRow w b cs t := by
  have h' : w.heap[b]? = some (.cells cs t (0, 0)) := h
  cases w with
  | mk heap tape drawn os output =>
    unfold putRow
    congr 1
    apply Array.ext_getElem?
    intro k
    by_cases hk : b = k
    · subst hk
      simp only at h'
      rw [Array.getElem?_setIfInBounds_self_of_lt (Array.getElem?_eq_some_iff.1 h').1, h']
    · rw [Array.getElem?_setIfInBounds_ne hk]

/-! ### Numbers of blocks -/
@[go_sem] theorem nat_le_g {a b : Nat} (g : Laid) (h : a ≤ b) : (a ≤ b + g.n) = True := eq_true (by omega)
@[go_sem] theorem nat_lt_g {a b : Nat} (g : Laid) (h : a < b) : (a < b + g.n) = True := eq_true (by omega)
@[go_sem] theorem nat_ne_g {a b : Nat} (g : Laid) (h : a < b) : (a = b + g.n) = False := eq_false (by omega)
@[go_sem] theorem nat_en_g {a b : Nat} (g : Laid) (h : a < b) : (b + g.n = a) = False := eq_false (by omega)
@[go_sem] theorem nat_le_gc {a b : Nat} (g : Laid) (c : Nat) (h : a ≤ b) : (a ≤ b + (g.n + c)) = True := eq_true (by omega)
@[go_sem] theorem nat_lt_gc {a b : Nat} (g : Laid) (c : Nat) (h : a < b) : (a < b + (g.n + c)) = True := eq_true (by omega)
@[go_sem] theorem nat_ne_gc {a b : Nat} (g : Laid) (c : Nat) (h : a < b) : (a = b + (g.n + c)) = False := eq_false (by omega)
@[go_sem] theorem nat_en_gc {a b : Nat} (g : Laid) (c : Nat) (h : a < b) : (b + (g.n + c) = a) = False := eq_false (by omega)
@[go_sem high] theorem nat_lt_s1 {w : World} : (w.heap.size < w.heap.size + 1) = True := eq_true (by omega)
@[go_sem high] theorem nat_ne_s1 {w : World} : (w.heap.size = w.heap.size + 1) = False := eq_false (by omega)
@[go_sem high] theorem nat_en_s1 {w : World} : (w.heap.size + 1 = w.heap.size) = False := eq_false (by omega)
@[go_sem] theorem nat_lt_h1 {a : Nat} {w : World} (h : a < w.heap.size) : (a < w.heap.size + 1) = True := eq_true (by omega)
@[go_sem] theorem nat_ne_h1 {a : Nat} {w : World} (h : a < w.heap.size) : (a = w.heap.size + 1) = False := eq_false (by omega)
@[go_sem high] theorem nat_lt_s1g {w : World} (g : Laid) : (w.heap.size < w.heap.size + 1 + g.n) = True := eq_true (by omega)
@[go_sem high] theorem nat_ne_s1g {w : World} (g : Laid) : (w.heap.size = w.heap.size + 1 + g.n) = False := eq_false (by omega)
@[go_sem high] theorem nat_en_s1g {w : World} (g : Laid) : (w.heap.size + 1 + g.n = w.heap.size) = False := eq_false (by omega)
@[go_sem] theorem nat_lt_h1g {a : Nat} {w : World} (g : Laid) (h : a < w.heap.size) : (a < w.heap.size + 1 + g.n) = True := eq_true (by omega)
@[go_sem] theorem nat_ne_h1g {a : Nat} {w : World} (g : Laid) (h : a < w.heap.size) : (a = w.heap.size + 1 + g.n) = False := eq_false (by omega)
@[go_sem high] theorem nat_lt_s1gc {w : World} (g : Laid) (c : Nat) : (w.heap.size < w.heap.size + 1 + (g.n + c)) = True := eq_true (by omega)
@[go_sem high] theorem nat_ne_s1gc {w : World} (g : Laid) (c : Nat) : (w.heap.size = w.heap.size + 1 + (g.n + c)) = False := eq_false (by omega)
@[go_sem high] theorem nat_en_s1gc {w : World} (g : Laid) (c : Nat) : (w.heap.size + 1 + (g.n + c) = w.heap.size) = False := eq_false (by omega)
@[go_sem] theorem nat_lt_h1gc {a : Nat} {w : World} (g : Laid) (c : Nat) (h : a < w.heap.size) : (a < w.heap.size + 1 + (g.n + c)) = True := eq_true (by omega)
@[go_sem] theorem nat_ne_h1gc {a : Nat} {w : World} (g : Laid) (c : Nat) (h : a < w.heap.size) : (a = w.heap.size + 1 + (g.n + c)) = False := eq_false (by omega)
@[go_sem high] theorem nat_lt_s2 {w : World} : (w.heap.size < w.heap.size + 1 + 1) = True := eq_true (by omega)
@[go_sem high] theorem nat_ne_s2 {w : World} : (w.heap.size = w.heap.size + 1 + 1) = False := eq_false (by omega)
@[go_sem high] theorem nat_en_s2 {w : World} : (w.heap.size + 1 + 1 = w.heap.size) = False := eq_false (by omega)
@[go_sem] theorem nat_lt_h2 {a : Nat} {w : World} (h : a < w.heap.size) : (a < w.heap.size + 1 + 1) = True := eq_true (by omega)
@[go_sem] theorem nat_ne_h2 {a : Nat} {w : World} (h : a < w.heap.size) : (a = w.heap.size + 1 + 1) = False := eq_false (by omega)
@[go_sem high] theorem nat_lt_s2g {w : World} (g : Laid) : (w.heap.size < w.heap.size + 1 + 1 + g.n) = True := eq_true (by omega)
@[go_sem high] theorem nat_ne_s2g {w : World} (g : Laid) : (w.heap.size = w.heap.size + 1 + 1 + g.n) = False := eq_false (by omega)
@[go_sem high] theorem nat_en_s2g {w : World} (g : Laid) : (w.heap.size + 1 + 1 + g.n = w.heap.size) = False := eq_false (by omega)
@[go_sem] theorem nat_lt_h2g {a : Nat} {w : World} (g : Laid) (h : a < w.heap.size) : (a < w.heap.size + 1 + 1 + g.n) = True := eq_true (by omega)
@[go_sem] theorem nat_ne_h2g {a : Nat} {w : World} (g : Laid) (h : a < w.heap.size) : (a = w.heap.size + 1 + 1 + g.n) = False := eq_false (by omega)
@[go_sem high] theorem nat_lt_s2gc {w : World} (g : Laid) (c : Nat) : (w.heap.size < w.heap.size + 1 + 1 + (g.n + c)) = True := eq_true (by omega)
@[go_sem high] theorem nat_ne_s2gc {w : World} (g : Laid) (c : Nat) : (w.heap.size = w.heap.size + 1 + 1 + (g.n + c)) = False := eq_false (by omega)
@[go_sem high] theorem nat_en_s2gc {w : World} (g : Laid) (c : Nat) : (w.heap.size + 1 + 1 + (g.n + c) = w.heap.size) = False := eq_false (by omega)
@[go_sem] theorem nat_lt_h2gc {a : Nat} {w : World} (g : Laid) (c : Nat) (h : a < w.heap.size) : (a < w.heap.size + 1 + 1 + (g.n + c)) = True := eq_true (by omega)
@[go_sem] theorem nat_ne_h2gc {a : Nat} {w : World} (g : Laid) (c : Nat) (h : a < w.heap.size) : (a = w.heap.size + 1 + 1 + (g.n + c)) = False := eq_false (by omega)
@[go_sem high] theorem nat_lt_s3 {w : World} : (w.heap.size < w.heap.size + 1 + 1 + 1) = True := eq_true (by omega)
@[go_sem high] theorem nat_ne_s3 {w : World} : (w.heap.size = w.heap.size + 1 + 1 + 1) = False := eq_false (by omega)
@[go_sem high] theorem nat_en_s3 {w : World} : (w.heap.size + 1 + 1 + 1 = w.heap.size) = False := eq_false (by omega)
@[go_sem] theorem nat_lt_h3 {a : Nat} {w : World} (h : a < w.heap.size) : (a < w.heap.size + 1 + 1 + 1) = True := eq_true (by omega)
@[go_sem] theorem nat_ne_h3 {a : Nat} {w : World} (h : a < w.heap.size) : (a = w.heap.size + 1 + 1 + 1) = False := eq_false (by omega)
@[go_sem high] theorem nat_lt_s3g {w : World} (g : Laid) : (w.heap.size < w.heap.size + 1 + 1 + 1 + g.n) = True := eq_true (by omega)
@[go_sem high] theorem nat_ne_s3g {w : World} (g : Laid) : (w.heap.size = w.heap.size + 1 + 1 + 1 + g.n) = False := eq_false (by omega)
@[go_sem high] theorem nat_en_s3g {w : World} (g : Laid) : (w.heap.size + 1 + 1 + 1 + g.n = w.heap.size) = False := eq_false (by omega)
@[go_sem] theorem nat_lt_h3g {a : Nat} {w : World} (g : Laid) (h : a < w.heap.size) : (a < w.heap.size + 1 + 1 + 1 + g.n) = True := eq_true (by omega)
@[go_sem] theorem nat_ne_h3g {a : Nat} {w : World} (g : Laid) (h : a < w.heap.size) : (a = w.heap.size + 1 + 1 + 1 + g.n) = False := eq_false (by omega)
@[go_sem high] theorem nat_lt_s3gc {w : World} (g : Laid) (c : Nat) : (w.heap.size < w.heap.size + 1 + 1 + 1 + (g.n + c)) = True := eq_true (by omega)
@[go_sem high] theorem nat_ne_s3gc {w : World} (g : Laid) (c : Nat) : (w.heap.size = w.heap.size + 1 + 1 + 1 + (g.n + c)) = False := eq_false (by omega)
@[go_sem high] theorem nat_en_s3gc {w : World} (g : Laid) (c : Nat) : (w.heap.size + 1 + 1 + 1 + (g.n + c) = w.heap.size) = False := eq_false (by omega)
@[go_sem] theorem nat_lt_h3gc {a : Nat} {w : World} (g : Laid) (c : Nat) (h : a < w.heap.size) : (a < w.heap.size + 1 + 1 + 1 + (g.n + c)) = True := eq_true (by omega)
@[go_sem] theorem nat_ne_h3gc {a : Nat} {w : World} (g : Laid) (c : Nat) (h : a < w.heap.size) : (a = w.heap.size + 1 + 1 + 1 + (g.n + c)) = False := eq_false (by omega)
@[go_sem high] theorem nat_lt_s4 {w : World} : (w.heap.size < w.heap.size + 1 + 1 + 1 + 1) = True := eq_true (by omega)
@[go_sem high] theorem nat_ne_s4 {w : World} : (w.heap.size = w.heap.size + 1 + 1 + 1 + 1) = False := eq_false (by omega)
@[go_sem high] theorem nat_en_s4 {w : World} : (w.heap.size + 1 + 1 + 1 + 1 = w.heap.size) = False := eq_false (by omega)
@[go_sem] theorem nat_lt_h4 {a : Nat} {w : World} (h : a < w.heap.size) : (a < w.heap.size + 1 + 1 + 1 + 1) = True := eq_true (by omega)
@[go_sem] theorem nat_ne_h4 {a : Nat} {w : World} (h : a < w.heap.size) : (a = w.heap.size + 1 + 1 + 1 + 1) = False := eq_false (by omega)
@[go_sem high] theorem nat_lt_s4g {w : World} (g : Laid) : (w.heap.size < w.heap.size + 1 + 1 + 1 + 1 + g.n) = True := eq_true (by omega)
@[go_sem high] theorem nat_ne_s4g {w : World} (g : Laid) : (w.heap.size = w.heap.size + 1 + 1 + 1 + 1 + g.n) = False := eq_false (by omega)
@[go_sem high] theorem nat_en_s4g {w : World} (g : Laid) : (w.heap.size + 1 + 1 + 1 + 1 + g.n = w.heap.size) = False := eq_false (by omega)
@[go_sem] theorem nat_lt_h4g {a : Nat} {w : World} (g : Laid) (h : a < w.heap.size) : (a < w.heap.size + 1 + 1 + 1 + 1 + g.n) = True := eq_true (by omega)
@[go_sem] theorem nat_ne_h4g {a : Nat} {w : World} (g : Laid) (h : a < w.heap.size) : (a = w.heap.size + 1 + 1 + 1 + 1 + g.n) = False := eq_false (by omega)
@[go_sem high] theorem nat_lt_s4gc {w : World} (g : Laid) (c : Nat) : (w.heap.size < w.heap.size + 1 + 1 + 1 + 1 + (g.n + c)) = True := eq_true (by omega)
@[go_sem high] theorem nat_ne_s4gc {w : World} (g : Laid) (c : Nat) : (w.heap.size = w.heap.size + 1 + 1 + 1 + 1 + (g.n + c)) = False := eq_false (by omega)
@[go_sem high] theorem nat_en_s4gc {w : World} (g : Laid) (c : Nat) : (w.heap.size + 1 + 1 + 1 + 1 + (g.n + c) = w.heap.size) = False := eq_false (by omega)
@[go_sem] theorem nat_lt_h4gc {a : Nat} {w : World} (g : Laid) (c : Nat) (h : a < w.heap.size) : (a < w.heap.size + 1 + 1 + 1 + 1 + (g.n + c)) = True := eq_true (by omega)
@[go_sem] theorem nat_ne_h4gc {a : Nat} {w : World} (g : Laid) (c : Nat) (h : a < w.heap.size) : (a = w.heap.size + 1 + 1 + 1 + 1 + (g.n + c)) = False := eq_false (by omega)
@[go_sem high] theorem nat_lt_s5 {w : World} : (w.heap.size < w.heap.size + 1 + 1 + 1 + 1 + 1) = True := eq_true (by omega)
@[go_sem high] theorem nat_ne_s5 {w : World} : (w.heap.size = w.heap.size + 1 + 1 + 1 + 1 + 1) = False := eq_false (by omega)
@[go_sem high] theorem nat_en_s5 {w : World} : (w.heap.size + 1 + 1 + 1 + 1 + 1 = w.heap.size) = False := eq_false (by omega)
@[go_sem] theorem nat_lt_h5 {a : Nat} {w : World} (h : a < w.heap.size) : (a < w.heap.size + 1 + 1 + 1 + 1 + 1) = True := eq_true (by omega)
@[go_sem] theorem nat_ne_h5 {a : Nat} {w : World} (h : a < w.heap.size) : (a = w.heap.size + 1 + 1 + 1 + 1 + 1) = False := eq_false (by omega)
@[go_sem high] theorem nat_lt_s5g {w : World} (g : Laid) : (w.heap.size < w.heap.size + 1 + 1 + 1 + 1 + 1 + g.n) = True := eq_true (by omega)
@[go_sem high] theorem nat_ne_s5g {w : World} (g : Laid) : (w.heap.size = w.heap.size + 1 + 1 + 1 + 1 + 1 + g.n) = False := eq_false (by omega)
@[go_sem high] theorem nat_en_s5g {w : World} (g : Laid) : (w.heap.size + 1 + 1 + 1 + 1 + 1 + g.n = w.heap.size) = False := eq_false (by omega)
@[go_sem] theorem nat_lt_h5g {a : Nat} {w : World} (g : Laid) (h : a < w.heap.size) : (a < w.heap.size + 1 + 1 + 1 + 1 + 1 + g.n) = True := eq_true (by omega)
@[go_sem] theorem nat_ne_h5g {a : Nat} {w : World} (g : Laid) (h : a < w.heap.size) : (a = w.heap.size + 1 + 1 + 1 + 1 + 1 + g.n) = False := eq_false (by omega)
@[go_sem high] theorem nat_lt_s5gc {w : World} (g : Laid) (c : Nat) : (w.heap.size < w.heap.size + 1 + 1 + 1 + 1 + 1 + (g.n + c)) = True := eq_true (by omega)
@[go_sem high] theorem nat_ne_s5gc {w : World} (g : Laid) (c : Nat) : (w.heap.size = w.heap.size + 1 + 1 + 1 + 1 + 1 + (g.n + c)) = False := eq_false (by omega)
@[go_sem high] theorem nat_en_s5gc {w : World} (g : Laid) (c : Nat) : (w.heap.size + 1 + 1 + 1 + 1 + 1 + (g.n + c) = w.heap.size) = False := eq_false (by omega)
@[go_sem] theorem nat_lt_h5gc {a : Nat} {w : World} (g : Laid) (c : Nat) (h : a < w.heap.size) : (a < w.heap.size + 1 + 1 + 1 + 1 + 1 + (g.n + c)) = True := eq_true (by omega)
@[go_sem] theorem nat_ne_h5gc {a : Nat} {w : World} (g : Laid) (c : Nat) (h : a < w.heap.size) : (a = w.heap.size + 1 + 1 + 1 + 1 + 1 + (g.n + c)) = False := eq_false (by omega)
@[go_sem high] theorem nat_lt_s6 {w : World} : (w.heap.size < w.heap.size + 1 + 1 + 1 + 1 + 1 + 1) = True := eq_true (by omega)
@[go_sem high] theorem nat_ne_s6 {w : World} : (w.heap.size = w.heap.size + 1 + 1 + 1 + 1 + 1 + 1) = False := eq_false (by omega)
@[go_sem high] theorem nat_en_s6 {w : World} : (w.heap.size + 1 + 1 + 1 + 1 + 1 + 1 = w.heap.size) = False := eq_false (by omega)
@[go_sem] theorem nat_lt_h6 {a : Nat} {w : World} (h : a < w.heap.size) : (a < w.heap.size + 1 + 1 + 1 + 1 + 1 + 1) = True := eq_true (by omega)
@[go_sem] theorem nat_ne_h6 {a : Nat} {w : World} (h : a < w.heap.size) : (a = w.heap.size + 1 + 1 + 1 + 1 + 1 + 1) = False := eq_false (by omega)
@[go_sem high] theorem nat_lt_s6g {w : World} (g : Laid) : (w.heap.size < w.heap.size + 1 + 1 + 1 + 1 + 1 + 1 + g.n) = True := eq_true (by omega)
@[go_sem high] theorem nat_ne_s6g {w : World} (g : Laid) : (w.heap.size = w.heap.size + 1 + 1 + 1 + 1 + 1 + 1 + g.n) = False := eq_false (by omega)
@[go_sem high] theorem nat_en_s6g {w : World} (g : Laid) : (w.heap.size + 1 + 1 + 1 + 1 + 1 + 1 + g.n = w.heap.size) = False := eq_false (by omega)
@[go_sem] theorem nat_lt_h6g {a : Nat} {w : World} (g : Laid) (h : a < w.heap.size) : (a < w.heap.size + 1 + 1 + 1 + 1 + 1 + 1 + g.n) = True := eq_true (by omega)
@[go_sem] theorem nat_ne_h6g {a : Nat} {w : World} (g : Laid) (h : a < w.heap.size) : (a = w.heap.size + 1 + 1 + 1 + 1 + 1 + 1 + g.n) = False := eq_false (by omega)
@[go_sem high] theorem nat_lt_s6gc {w : World} (g : Laid) (c : Nat) : (w.heap.size < w.heap.size + 1 + 1 + 1 + 1 + 1 + 1 + (g.n + c)) = True := eq_true (by omega)
@[go_sem high] theorem nat_ne_s6gc {w : World} (g : Laid) (c : Nat) : (w.heap.size = w.heap.size + 1 + 1 + 1 + 1 + 1 + 1 + (g.n + c)) = False := eq_false (by omega)
@[go_sem high] theorem nat_en_s6gc {w : World} (g : Laid) (c : Nat) : (w.heap.size + 1 + 1 + 1 + 1 + 1 + 1 + (g.n + c) = w.heap.size) = False := eq_false (by omega)
@[go_sem] theorem nat_lt_h6gc {a : Nat} {w : World} (g : Laid) (c : Nat) (h : a < w.heap.size) : (a < w.heap.size + 1 + 1 + 1 + 1 + 1 + 1 + (g.n + c)) = True := eq_true (by omega)
@[go_sem] theorem nat_ne_h6gc {a : Nat} {w : World} (g : Laid) (c : Nat) (h : a < w.heap.size) : (a = w.heap.size + 1 + 1 + 1 + 1 + 1 + 1 + (g.n + c)) = False := eq_false (by omega)
@[go_sem high] theorem nat_lt_s7 {w : World} : (w.heap.size < w.heap.size + 1 + 1 + 1 + 1 + 1 + 1 + 1) = True := eq_true (by omega)
@[go_sem high] theorem nat_ne_s7 {w : World} : (w.heap.size = w.heap.size + 1 + 1 + 1 + 1 + 1 + 1 + 1) = False := eq_false (by omega)
@[go_sem high] theorem nat_en_s7 {w : World} : (w.heap.size + 1 + 1 + 1 + 1 + 1 + 1 + 1 = w.heap.size) = False := eq_false (by omega)
@[go_sem] theorem nat_lt_h7 {a : Nat} {w : World} (h : a < w.heap.size) : (a < w.heap.size + 1 + 1 + 1 + 1 + 1 + 1 + 1) = True := eq_true (by omega)
@[go_sem] theorem nat_ne_h7 {a : Nat} {w : World} (h : a < w.heap.size) : (a = w.heap.size + 1 + 1 + 1 + 1 + 1 + 1 + 1) = False := eq_false (by omega)
@[go_sem high] theorem nat_lt_s7g {w : World} (g : Laid) : (w.heap.size < w.heap.size + 1 + 1 + 1 + 1 + 1 + 1 + 1 + g.n) = True := eq_true (by omega)
@[go_sem high] theorem nat_ne_s7g {w : World} (g : Laid) : (w.heap.size = w.heap.size + 1 + 1 + 1 + 1 + 1 + 1 + 1 + g.n) = False := eq_false (by omega)
@[go_sem high] theorem nat_en_s7g {w : World} (g : Laid) : (w.heap.size + 1 + 1 + 1 + 1 + 1 + 1 + 1 + g.n = w.heap.size) = False := eq_false (by omega)
@[go_sem] theorem nat_lt_h7g {a : Nat} {w : World} (g : Laid) (h : a < w.heap.size) : (a < w.heap.size + 1 + 1 + 1 + 1 + 1 + 1 + 1 + g.n) = True := eq_true (by omega)
@[go_sem] theorem nat_ne_h7g {a : Nat} {w : World} (g : Laid) (h : a < w.heap.size) : (a = w.heap.size + 1 + 1 + 1 + 1 + 1 + 1 + 1 + g.n) = False := eq_false (by omega)
@[go_sem high] theorem nat_lt_s7gc {w : World} (g : Laid) (c : Nat) : (w.heap.size < w.heap.size + 1 + 1 + 1 + 1 + 1 + 1 + 1 + (g.n + c)) = True := eq_true (by omega)
@[go_sem high] theorem nat_ne_s7gc {w : World} (g : Laid) (c : Nat) : (w.heap.size = w.heap.size + 1 + 1 + 1 + 1 + 1 + 1 + 1 + (g.n + c)) = False := eq_false (by omega)
@[go_sem high] theorem nat_en_s7gc {w : World} (g : Laid) (c : Nat) : (w.heap.size + 1 + 1 + 1 + 1 + 1 + 1 + 1 + (g.n + c) = w.heap.size) = False := eq_false (by omega)
@[go_sem] theorem nat_lt_h7gc {a : Nat} {w : World} (g : Laid) (c : Nat) (h : a < w.heap.size) : (a < w.heap.size + 1 + 1 + 1 + 1 + 1 + 1 + 1 + (g.n + c)) = True := eq_true (by omega)
@[go_sem] theorem nat_ne_h7gc {a : Nat} {w : World} (g : Laid) (c : Nat) (h : a < w.heap.size) : (a = w.heap.size + 1 + 1 + 1 + 1 + 1 + 1 + 1 + (g.n + c)) = False := eq_false (by omega)
@[go_sem high] theorem nat_lt_s8 {w : World} : (w.heap.size < w.heap.size + 1 + 1 + 1 + 1 + 1 + 1 + 1 + 1) = True := eq_true (by omega)
@[go_sem high] theorem nat_ne_s8 {w : World} : (w.heap.size = w.heap.size + 1 + 1 + 1 + 1 + 1 + 1 + 1 + 1) = False := eq_false (by omega)
@[go_sem high] theorem nat_en_s8 {w : World} : (w.heap.size + 1 + 1 + 1 + 1 + 1 + 1 + 1 + 1 = w.heap.size) = False := eq_false (by omega)
@[go_sem] theorem nat_lt_h8 {a : Nat} {w : World} (h : a < w.heap.size) : (a < w.heap.size + 1 + 1 + 1 + 1 + 1 + 1 + 1 + 1) = True := eq_true (by omega)
@[go_sem] theorem nat_ne_h8 {a : Nat} {w : World} (h : a < w.heap.size) : (a = w.heap.size + 1 + 1 + 1 + 1 + 1 + 1 + 1 + 1) = False := eq_false (by omega)
@[go_sem high] theorem nat_lt_s8g {w : World} (g : Laid) : (w.heap.size < w.heap.size + 1 + 1 + 1 + 1 + 1 + 1 + 1 + 1 + g.n) = True := eq_true (by omega)
@[go_sem high] theorem nat_ne_s8g {w : World} (g : Laid) : (w.heap.size = w.heap.size + 1 + 1 + 1 + 1 + 1 + 1 + 1 + 1 + g.n) = False := eq_false (by omega)
@[go_sem high] theorem nat_en_s8g {w : World} (g : Laid) : (w.heap.size + 1 + 1 + 1 + 1 + 1 + 1 + 1 + 1 + g.n = w.heap.size) = False := eq_false (by omega)
@[go_sem] theorem nat_lt_h8g {a : Nat} {w : World} (g : Laid) (h : a < w.heap.size) : (a < w.heap.size + 1 + 1 + 1 + 1 + 1 + 1 + 1 + 1 + g.n) = True := eq_true (by omega)
@[go_sem] theorem nat_ne_h8g {a : Nat} {w : World} (g : Laid) (h : a < w.heap.size) : (a = w.heap.size + 1 + 1 + 1 + 1 + 1 + 1 + 1 + 1 + g.n) = False := eq_false (by omega)
@[go_sem high] theorem nat_lt_s8gc {w : World} (g : Laid) (c : Nat) : (w.heap.size < w.heap.size + 1 + 1 + 1 + 1 + 1 + 1 + 1 + 1 + (g.n + c)) = True := eq_true (by omega)
@[go_sem high] theorem nat_ne_s8gc {w : World} (g : Laid) (c : Nat) : (w.heap.size = w.heap.size + 1 + 1 + 1 + 1 + 1 + 1 + 1 + 1 + (g.n + c)) = False := eq_false (by omega)
@[go_sem high] theorem nat_en_s8gc {w : World} (g : Laid) (c : Nat) : (w.heap.size + 1 + 1 + 1 + 1 + 1 + 1 + 1 + 1 + (g.n + c) = w.heap.size) = False := eq_false (by omega)
@[go_sem] theorem nat_lt_h8gc {a : Nat} {w : World} (g : Laid) (c : Nat) (h : a < w.heap.size) : (a < w.heap.size + 1 + 1 + 1 + 1 + 1 + 1 + 1 + 1 + (g.n + c)) = True := eq_true (by omega)
@[go_sem] theorem nat_ne_h8gc {a : Nat} {w : World} (g : Laid) (c : Nat) (h : a < w.heap.size) : (a = w.heap.size + 1 + 1 + 1 + 1 + 1 + 1 + 1 + 1 + (g.n + c)) = False := eq_false (by omega)
@[go_sem high] theorem nat_lt_s9 {w : World} : (w.heap.size < w.heap.size + 1 + 1 + 1 + 1 + 1 + 1 + 1 + 1 + 1) = True := eq_true (by omega)
@[go_sem high] theorem nat_ne_s9 {w : World} : (w.heap.size = w.heap.size + 1 + 1 + 1 + 1 + 1 + 1 + 1 + 1 + 1) = False := eq_false (by omega)
@[go_sem high] theorem nat_en_s9 {w : World} : (w.heap.size + 1 + 1 + 1 + 1 + 1 + 1 + 1 + 1 + 1 = w.heap.size) = False := eq_false (by omega)
@[go_sem] theorem nat_lt_h9 {a : Nat} {w : World} (h : a < w.heap.size) : (a < w.heap.size + 1 + 1 + 1 + 1 + 1 + 1 + 1 + 1 + 1) = True := eq_true (by omega)
@[go_sem] theorem nat_ne_h9 {a : Nat} {w : World} (h : a < w.heap.size) : (a = w.heap.size + 1 + 1 + 1 + 1 + 1 + 1 + 1 + 1 + 1) = False := eq_false (by omega)
@[go_sem high] theorem nat_lt_s9g {w : World} (g : Laid) : (w.heap.size < w.heap.size + 1 + 1 + 1 + 1 + 1 + 1 + 1 + 1 + 1 + g.n) = True := eq_true (by omega)
@[go_sem high] theorem nat_ne_s9g {w : World} (g : Laid) : (w.heap.size = w.heap.size + 1 + 1 + 1 + 1 + 1 + 1 + 1 + 1 + 1 + g.n) = False := eq_false (by omega)
@[go_sem high] theorem nat_en_s9g {w : World} (g : Laid) : (w.heap.size + 1 + 1 + 1 + 1 + 1 + 1 + 1 + 1 + 1 + g.n = w.heap.size) = False := eq_false (by omega)
@[go_sem] theorem nat_lt_h9g {a : Nat} {w : World} (g : Laid) (h : a < w.heap.size) : (a < w.heap.size + 1 + 1 + 1 + 1 + 1 + 1 + 1 + 1 + 1 + g.n) = True := eq_true (by omega)
@[go_sem] theorem nat_ne_h9g {a : Nat} {w : World} (g : Laid) (h : a < w.heap.size) : (a = w.heap.size + 1 + 1 + 1 + 1 + 1 + 1 + 1 + 1 + 1 + g.n) = False := eq_false (by omega)
@[go_sem high] theorem nat_lt_s9gc {w : World} (g : Laid) (c : Nat) : (w.heap.size < w.heap.size + 1 + 1 + 1 + 1 + 1 + 1 + 1 + 1 + 1 + (g.n + c)) = True := eq_true (by omega)
@[go_sem high] theorem nat_ne_s9gc {w : World} (g : Laid) (c : Nat) : (w.heap.size = w.heap.size + 1 + 1 + 1 + 1 + 1 + 1 + 1 + 1 + 1 + (g.n + c)) = False := eq_false (by omega)
@[go_sem high] theorem nat_en_s9gc {w : World} (g : Laid) (c : Nat) : (w.heap.size + 1 + 1 + 1 + 1 + 1 + 1 + 1 + 1 + 1 + (g.n + c) = w.heap.size) = False := eq_false (by omega)
@[go_sem] theorem nat_lt_h9gc {a : Nat} {w : World} (g : Laid) (c : Nat) (h : a < w.heap.size) : (a < w.heap.size + 1 + 1 + 1 + 1 + 1 + 1 + 1 + 1 + 1 + (g.n + c)) = True := eq_true (by omega)
@[go_sem] theorem nat_ne_h9gc {a : Nat} {w : World} (g : Laid) (c : Nat) (h : a < w.heap.size) : (a = w.heap.size + 1 + 1 + 1 + 1 + 1 + 1 + 1 + 1 + 1 + (g.n + c)) = False := eq_false (by omega)
@[go_sem high] theorem nat_lt_s10 {w : World} : (w.heap.size < w.heap.size + 1 + 1 + 1 + 1 + 1 + 1 + 1 + 1 + 1 + 1) = True := eq_true (by omega)
@[go_sem high] theorem nat_ne_s10 {w : World} : (w.heap.size = w.heap.size + 1 + 1 + 1 + 1 + 1 + 1 + 1 + 1 + 1 + 1) = False := eq_false (by omega)
@[go_sem high] theorem nat_en_s10 {w : World} : (w.heap.size + 1 + 1 + 1 + 1 + 1 + 1 + 1 + 1 + 1 + 1 = w.heap.size) = False := eq_false (by omega)
@[go_sem] theorem nat_lt_h10 {a : Nat} {w : World} (h : a < w.heap.size) : (a < w.heap.size + 1 + 1 + 1 + 1 + 1 + 1 + 1 + 1 + 1 + 1) = True := eq_true (by omega)
@[go_sem] theorem nat_ne_h10 {a : Nat} {w : World} (h : a < w.heap.size) : (a = w.heap.size + 1 + 1 + 1 + 1 + 1 + 1 + 1 + 1 + 1 + 1) = False := eq_false (by omega)
@[go_sem high] theorem nat_lt_s10g {w : World} (g : Laid) : (w.heap.size < w.heap.size + 1 + 1 + 1 + 1 + 1 + 1 + 1 + 1 + 1 + 1 + g.n) = True := eq_true (by omega)
@[go_sem high] theorem nat_ne_s10g {w : World} (g : Laid) : (w.heap.size = w.heap.size + 1 + 1 + 1 + 1 + 1 + 1 + 1 + 1 + 1 + 1 + g.n) = False := eq_false (by omega)
@[go_sem high] theorem nat_en_s10g {w : World} (g : Laid) : (w.heap.size + 1 + 1 + 1 + 1 + 1 + 1 + 1 + 1 + 1 + 1 + g.n = w.heap.size) = False := eq_false (by omega)
@[go_sem] theorem nat_lt_h10g {a : Nat} {w : World} (g : Laid) (h : a < w.heap.size) : (a < w.heap.size + 1 + 1 + 1 + 1 + 1 + 1 + 1 + 1 + 1 + 1 + g.n) = True := eq_true (by omega)
@[go_sem] theorem nat_ne_h10g {a : Nat} {w : World} (g : Laid) (h : a < w.heap.size) : (a = w.heap.size + 1 + 1 + 1 + 1 + 1 + 1 + 1 + 1 + 1 + 1 + g.n) = False := eq_false (by omega)
@[go_sem high] theorem nat_lt_s10gc {w : World} (g : Laid) (c : Nat) : (w.heap.size < w.heap.size + 1 + 1 + 1 + 1 + 1 + 1 + 1 + 1 + 1 + 1 + (g.n + c)) = True := eq_true (by omega)
@[go_sem high] theorem nat_ne_s10gc {w : World} (g : Laid) (c : Nat) : (w.heap.size = w.heap.size + 1 + 1 + 1 + 1 + 1 + 1 + 1 + 1 + 1 + 1 + (g.n + c)) = False := eq_false (by omega)
@[go_sem high] theorem nat_en_s10gc {w : World} (g : Laid) (c : Nat) : (w.heap.size + 1 + 1 + 1 + 1 + 1 + 1 + 1 + 1 + 1 + 1 + (g.n + c) = w.heap.size) = False := eq_false (by omega)
@[go_sem] theorem nat_lt_h10gc {a : Nat} {w : World} (g : Laid) (c : Nat) (h : a < w.heap.size) : (a < w.heap.size + 1 + 1 + 1 + 1 + 1 + 1 + 1 + 1 + 1 + 1 + (g.n + c)) = True := eq_true (by omega)
@[go_sem] theorem nat_ne_h10gc {a : Nat} {w : World} (g : Laid) (c : Nat) (h : a < w.heap.size) : (a = w.heap.size + 1 + 1 + 1 + 1 + 1 + 1 + 1 + 1 + 1 + 1 + (g.n + c)) = False := eq_false (by omega)
@[go_sem high] theorem nat_lt_s11 {w : World} : (w.heap.size < w.heap.size + 1 + 1 + 1 + 1 + 1 + 1 + 1 + 1 + 1 + 1 + 1) = True := eq_true (by omega)
@[go_sem high] theorem nat_ne_s11 {w : World} : (w.heap.size = w.heap.size + 1 + 1 + 1 + 1 + 1 + 1 + 1 + 1 + 1 + 1 + 1) = False := eq_false (by omega)
@[go_sem high] theorem nat_en_s11 {w : World} : (w.heap.size + 1 + 1 + 1 + 1 + 1 + 1 + 1 + 1 + 1 + 1 + 1 = w.heap.size) = False := eq_false (by omega)
@[go_sem] theorem nat_lt_h11 {a : Nat} {w : World} (h : a < w.heap.size) : (a < w.heap.size + 1 + 1 + 1 + 1 + 1 + 1 + 1 + 1 + 1 + 1 + 1) = True := eq_true (by omega)
@[go_sem] theorem nat_ne_h11 {a : Nat} {w : World} (h : a < w.heap.size) : (a = w.heap.size + 1 + 1 + 1 + 1 + 1 + 1 + 1 + 1 + 1 + 1 + 1) = False := eq_false (by omega)
@[go_sem high] theorem nat_lt_s11g {w : World} (g : Laid) : (w.heap.size < w.heap.size + 1 + 1 + 1 + 1 + 1 + 1 + 1 + 1 + 1 + 1 + 1 + g.n) = True := eq_true (by omega)
@[go_sem high] theorem nat_ne_s11g {w : World} (g : Laid) : (w.heap.size = w.heap.size + 1 + 1 + 1 + 1 + 1 + 1 + 1 + 1 + 1 + 1 + 1 + g.n) = False := eq_false (by omega)
@[go_sem high] theorem nat_en_s11g {w : World} (g : Laid) : (w.heap.size + 1 + 1 + 1 + 1 + 1 + 1 + 1 + 1 + 1 + 1 + 1 + g.n = w.heap.size) = False := eq_false (by omega)
@[go_sem] theorem nat_lt_h11g {a : Nat} {w : World} (g : Laid) (h : a < w.heap.size) : (a < w.heap.size + 1 + 1 + 1 + 1 + 1 + 1 + 1 + 1 + 1 + 1 + 1 + g.n) = True := eq_true (by omega)
@[go_sem] theorem nat_ne_h11g {a : Nat} {w : World} (g : Laid) (h : a < w.heap.size) : (a = w.heap.size + 1 + 1 + 1 + 1 + 1 + 1 + 1 + 1 + 1 + 1 + 1 + g.n) = False := eq_false (by omega)
@[go_sem high] theorem nat_lt_s11gc {w : World} (g : Laid) (c : Nat) : (w.heap.size < w.heap.size + 1 + 1 + 1 + 1 + 1 + 1 + 1 + 1 + 1 + 1 + 1 + (g.n + c)) = True := eq_true (by omega)
@[go_sem high] theorem nat_ne_s11gc {w : World} (g : Laid) (c : Nat) : (w.heap.size = w.heap.size + 1 + 1 + 1 + 1 + 1 + 1 + 1 + 1 + 1 + 1 + 1 + (g.n + c)) = False := eq_false (by omega)
@[go_sem high] theorem nat_en_s11gc {w : World} (g : Laid) (c : Nat) : (w.heap.size + 1 + 1 + 1 + 1 + 1 + 1 + 1 + 1 + 1 + 1 + 1 + (g.n + c) = w.heap.size) = False := eq_false (by omega)
@[go_sem] theorem nat_lt_h11gc {a : Nat} {w : World} (g : Laid) (c : Nat) (h : a < w.heap.size) : (a < w.heap.size + 1 + 1 + 1 + 1 + 1 + 1 + 1 + 1 + 1 + 1 + 1 + (g.n + c)) = True := eq_true (by omega)
@[go_sem] theorem nat_ne_h11gc {a : Nat} {w : World} (g : Laid) (c : Nat) (h : a < w.heap.size) : (a = w.heap.size + 1 + 1 + 1 + 1 + 1 + 1 + 1 + 1 + 1 + 1 + 1 + (g.n + c)) = False := eq_false (by omega)
@[go_sem high] theorem nat_lt_s12 {w : World} : (w.heap.size < w.heap.size + 1 + 1 + 1 + 1 + 1 + 1 + 1 + 1 + 1 + 1 + 1 + 1) = True := eq_true (by omega)
@[go_sem high] theorem nat_ne_s12 {w : World} : (w.heap.size = w.heap.size + 1 + 1 + 1 + 1 + 1 + 1 + 1 + 1 + 1 + 1 + 1 + 1) = False := eq_false (by omega)
@[go_sem high] theorem nat_en_s12 {w : World} : (w.heap.size + 1 + 1 + 1 + 1 + 1 + 1 + 1 + 1 + 1 + 1 + 1 + 1 = w.heap.size) = False := eq_false (by omega)
@[go_sem] theorem nat_lt_h12 {a : Nat} {w : World} (h : a < w.heap.size) : (a < w.heap.size + 1 + 1 + 1 + 1 + 1 + 1 + 1 + 1 + 1 + 1 + 1 + 1) = True := eq_true (by omega)
@[go_sem] theorem nat_ne_h12 {a : Nat} {w : World} (h : a < w.heap.size) : (a = w.heap.size + 1 + 1 + 1 + 1 + 1 + 1 + 1 + 1 + 1 + 1 + 1 + 1) = False := eq_false (by omega)
@[go_sem high] theorem nat_lt_s12g {w : World} (g : Laid) : (w.heap.size < w.heap.size + 1 + 1 + 1 + 1 + 1 + 1 + 1 + 1 + 1 + 1 + 1 + 1 + g.n) = True := eq_true (by omega)
@[go_sem high] theorem nat_ne_s12g {w : World} (g : Laid) : (w.heap.size = w.heap.size + 1 + 1 + 1 + 1 + 1 + 1 + 1 + 1 + 1 + 1 + 1 + 1 + g.n) = False := eq_false (by omega)
@[go_sem high] theorem nat_en_s12g {w : World} (g : Laid) : (w.heap.size + 1 + 1 + 1 + 1 + 1 + 1 + 1 + 1 + 1 + 1 + 1 + 1 + g.n = w.heap.size) = False := eq_false (by omega)
@[go_sem] theorem nat_lt_h12g {a : Nat} {w : World} (g : Laid) (h : a < w.heap.size) : (a < w.heap.size + 1 + 1 + 1 + 1 + 1 + 1 + 1 + 1 + 1 + 1 + 1 + 1 + g.n) = True := eq_true (by omega)
@[go_sem] theorem nat_ne_h12g {a : Nat} {w : World} (g : Laid) (h : a < w.heap.size) : (a = w.heap.size + 1 + 1 + 1 + 1 + 1 + 1 + 1 + 1 + 1 + 1 + 1 + 1 + g.n) = False := eq_false (by omega)
@[go_sem high] theorem nat_lt_s12gc {w : World} (g : Laid) (c : Nat) : (w.heap.size < w.heap.size + 1 + 1 + 1 + 1 + 1 + 1 + 1 + 1 + 1 + 1 + 1 + 1 + (g.n + c)) = True := eq_true (by omega)
@[go_sem high] theorem nat_ne_s12gc {w : World} (g : Laid) (c : Nat) : (w.heap.size = w.heap.size + 1 + 1 + 1 + 1 + 1 + 1 + 1 + 1 + 1 + 1 + 1 + 1 + (g.n + c)) = False := eq_false (by omega)
@[go_sem high] theorem nat_en_s12gc {w : World} (g : Laid) (c : Nat) : (w.heap.size + 1 + 1 + 1 + 1 + 1 + 1 + 1 + 1 + 1 + 1 + 1 + 1 + (g.n + c) = w.heap.size) = False := eq_false (by omega)
@[go_sem] theorem nat_lt_h12gc {a : Nat} {w : World} (g : Laid) (c : Nat) (h : a < w.heap.size) : (a < w.heap.size + 1 + 1 + 1 + 1 + 1 + 1 + 1 + 1 + 1 + 1 + 1 + 1 + (g.n + c)) = True := eq_true (by omega)
@[go_sem] theorem nat_ne_h12gc {a : Nat} {w : World} (g : Laid) (c : Nat) (h : a < w.heap.size) : (a = w.heap.size + 1 + 1 + 1 + 1 + 1 + 1 + 1 + 1 + 1 + 1 + 1 + 1 + (g.n + c)) = False := eq_false (by omega)
@[go_sem high] theorem nat_lt_s13 {w : World} : (w.heap.size < w.heap.size + 1 + 1 + 1 + 1 + 1 + 1 + 1 + 1 + 1 + 1 + 1 + 1 + 1) = True := eq_true (by omega)
@[go_sem high] theorem nat_ne_s13 {w : World} : (w.heap.size = w.heap.size + 1 + 1 + 1 + 1 + 1 + 1 + 1 + 1 + 1 + 1 + 1 + 1 + 1) = False := eq_false (by omega)
@[go_sem high] theorem nat_en_s13 {w : World} : (w.heap.size + 1 + 1 + 1 + 1 + 1 + 1 + 1 + 1 + 1 + 1 + 1 + 1 + 1 = w.heap.size) = False := eq_false (by omega)
@[go_sem] theorem nat_lt_h13 {a : Nat} {w : World} (h : a < w.heap.size) : (a < w.heap.size + 1 + 1 + 1 + 1 + 1 + 1 + 1 + 1 + 1 + 1 + 1 + 1 + 1) = True := eq_true (by omega)
@[go_sem] theorem nat_ne_h13 {a : Nat} {w : World} (h : a < w.heap.size) : (a = w.heap.size + 1 + 1 + 1 + 1 + 1 + 1 + 1 + 1 + 1 + 1 + 1 + 1 + 1) = False := eq_false (by omega)
@[go_sem high] theorem nat_lt_s13g {w : World} (g : Laid) : (w.heap.size < w.heap.size + 1 + 1 + 1 + 1 + 1 + 1 + 1 + 1 + 1 + 1 + 1 + 1 + 1 + g.n) = True := eq_true (by omega)
@[go_sem high] theorem nat_ne_s13g {w : World} (g : Laid) : (w.heap.size = w.heap.size + 1 + 1 + 1 + 1 + 1 + 1 + 1 + 1 + 1 + 1 + 1 + 1 + 1 + g.n) = False := eq_false (by omega)
@[go_sem high] theorem nat_en_s13g {w : World} (g : Laid) : (w.heap.size + 1 + 1 + 1 + 1 + 1 + 1 + 1 + 1 + 1 + 1 + 1 + 1 + 1 + g.n = w.heap.size) = False := eq_false (by omega)
@[go_sem] theorem nat_lt_h13g {a : Nat} {w : World} (g : Laid) (h : a < w.heap.size) : (a < w.heap.size + 1 + 1 + 1 + 1 + 1 + 1 + 1 + 1 + 1 + 1 + 1 + 1 + 1 + g.n) = True := eq_true (by omega)
@[go_sem] theorem nat_ne_h13g {a : Nat} {w : World} (g : Laid) (h : a < w.heap.size) : (a = w.heap.size + 1 + 1 + 1 + 1 + 1 + 1 + 1 + 1 + 1 + 1 + 1 + 1 + 1 + g.n) = False := eq_false (by omega)
@[go_sem high] theorem nat_lt_s13gc {w : World} (g : Laid) (c : Nat) : (w.heap.size < w.heap.size + 1 + 1 + 1 + 1 + 1 + 1 + 1 + 1 + 1 + 1 + 1 + 1 + 1 + (g.n + c)) = True := eq_true (by omega)
@[go_sem high] theorem nat_ne_s13gc {w : World} (g : Laid) (c : Nat) : (w.heap.size = w.heap.size + 1 + 1 + 1 + 1 + 1 + 1 + 1 + 1 + 1 + 1 + 1 + 1 + 1 + (g.n + c)) = False := eq_false (by omega)
@[go_sem high] theorem nat_en_s13gc {w : World} (g : Laid) (c : Nat) : (w.heap.size + 1 + 1 + 1 + 1 + 1 + 1 + 1 + 1 + 1 + 1 + 1 + 1 + 1 + (g.n + c) = w.heap.size) = False := eq_false (by omega)
@[go_sem] theorem nat_lt_h13gc {a : Nat} {w : World} (g : Laid) (c : Nat) (h : a < w.heap.size) : (a < w.heap.size + 1 + 1 + 1 + 1 + 1 + 1 + 1 + 1 + 1 + 1 + 1 + 1 + 1 + (g.n + c)) = True := eq_true (by omega)
@[go_sem] theorem nat_ne_h13gc {a : Nat} {w : World} (g : Laid) (c : Nat) (h : a < w.heap.size) : (a = w.heap.size + 1 + 1 + 1 + 1 + 1 + 1 + 1 + 1 + 1 + 1 + 1 + 1 + 1 + (g.n + c)) = False := eq_false (by omega)
@[go_sem high] theorem nat_lt_s14 {w : World} : (w.heap.size < w.heap.size + 1 + 1 + 1 + 1 + 1 + 1 + 1 + 1 + 1 + 1 + 1 + 1 + 1 + 1) = True := eq_true (by omega)
@[go_sem high] theorem nat_ne_s14 {w : World} : (w.heap.size = w.heap.size + 1 + 1 + 1 + 1 + 1 + 1 + 1 + 1 + 1 + 1 + 1 + 1 + 1 + 1) = False := eq_false (by omega)
@[go_sem high] theorem nat_en_s14 {w : World} : (w.heap.size + 1 + 1 + 1 + 1 + 1 + 1 + 1 + 1 + 1 + 1 + 1 + 1 + 1 + 1 = w.heap.size) = False := eq_false (by omega)
@[go_sem] theorem nat_lt_h14 {a : Nat} {w : World} (h : a < w.heap.size) : (a < w.heap.size + 1 + 1 + 1 + 1 + 1 + 1 + 1 + 1 + 1 + 1 + 1 + 1 + 1 + 1) = True := eq_true (by omega)
@[go_sem] theorem nat_ne_h14 {a : Nat} {w : World} (h : a < w.heap.size) : (a = w.heap.size + 1 + 1 + 1 + 1 + 1 + 1 + 1 + 1 + 1 + 1 + 1 + 1 + 1 + 1) = False := eq_false (by omega)
@[go_sem high] theorem nat_lt_s14g {w : World} (g : Laid) : (w.heap.size < w.heap.size + 1 + 1 + 1 + 1 + 1 + 1 + 1 + 1 + 1 + 1 + 1 + 1 + 1 + 1 + g.n) = True := eq_true (by omega)
@[go_sem high] theorem nat_ne_s14g {w : World} (g : Laid) : (w.heap.size = w.heap.size + 1 + 1 + 1 + 1 + 1 + 1 + 1 + 1 + 1 + 1 + 1 + 1 + 1 + 1 + g.n) = False := eq_false (by omega)
@[go_sem high] theorem nat_en_s14g {w : World} (g : Laid) : (w.heap.size + 1 + 1 + 1 + 1 + 1 + 1 + 1 + 1 + 1 + 1 + 1 + 1 + 1 + 1 + g.n = w.heap.size) = False := eq_false (by omega)
@[go_sem] theorem nat_lt_h14g {a : Nat} {w : World} (g : Laid) (h : a < w.heap.size) : (a < w.heap.size + 1 + 1 + 1 + 1 + 1 + 1 + 1 + 1 + 1 + 1 + 1 + 1 + 1 + 1 + g.n) = True := eq_true (by omega)
@[go_sem] theorem nat_ne_h14g {a : Nat} {w : World} (g : Laid) (h : a < w.heap.size) : (a = w.heap.size + 1 + 1 + 1 + 1 + 1 + 1 + 1 + 1 + 1 + 1 + 1 + 1 + 1 + 1 + g.n) = False := eq_false (by omega)
@[go_sem high] theorem nat_lt_s14gc {w : World} (g : Laid) (c : Nat) : (w.heap.size < w.heap.size + 1 + 1 + 1 + 1 + 1 + 1 + 1 + 1 + 1 + 1 + 1 + 1 + 1 + 1 + (g.n + c)) = True := eq_true (by omega)
@[go_sem high] theorem nat_ne_s14gc {w : World} (g : Laid) (c : Nat) : (w.heap.size = w.heap.size + 1 + 1 + 1 + 1 + 1 + 1 + 1 + 1 + 1 + 1 + 1 + 1 + 1 + 1 + (g.n + c)) = False := eq_false (by omega)
@[go_sem high] theorem nat_en_s14gc {w : World} (g : Laid) (c : Nat) : (w.heap.size + 1 + 1 + 1 + 1 + 1 + 1 + 1 + 1 + 1 + 1 + 1 + 1 + 1 + 1 + (g.n + c) = w.heap.size) = False := eq_false (by omega)
@[go_sem] theorem nat_lt_h14gc {a : Nat} {w : World} (g : Laid) (c : Nat) (h : a < w.heap.size) : (a < w.heap.size + 1 + 1 + 1 + 1 + 1 + 1 + 1 + 1 + 1 + 1 + 1 + 1 + 1 + 1 + (g.n + c)) = True := eq_true (by omega)
@[go_sem] theorem nat_ne_h14gc {a : Nat} {w : World} (g : Laid) (c : Nat) (h : a < w.heap.size) : (a = w.heap.size + 1 + 1 + 1 + 1 + 1 + 1 + 1 + 1 + 1 + 1 + 1 + 1 + 1 + 1 + (g.n + c)) = False := eq_false (by omega)
@[go_sem] theorem add_laid (a b : Nat) (g : Laid) : a + g.n + b = a + (g.n + b) := Nat.add_assoc ..
@[go_sem] theorem add_laid2 (a b c : Nat) (g : Laid) : a + (g.n + b) + c = a + (g.n + (b + c)) := by omega

/-! ### Blocks of one's own -/
theorem St.grow {w0 w : World} {L : List (Nat × Array Value × TypeId)} (h : St w0 w L) (g : Laid) : St w0 (Go.Proofs.Ytcjncidahjneaaa.grow w g) L := h.call (grow_below w g)
theorem St.drew {w0 w : World} {L : List (Nat × Array Value × TypeId)} (h : St w0 w L) : St w0 w.drew L := h.drewN 1
theorem St.skip {w0 w : World} {L : List (Nat × Array Value × TypeId)} (h : St w0 w L) (o : Obj) : St w0 (w.alloc o) L := h.call ((Below.refl _ _).alloc (Nat.le_refl _) _)
theorem put_is_setRow {w : World} {b : Nat} {cs : Array Value} {t : TypeId} (h : blk w b = some (.cells cs t (0, 0))) (cs' : Array Value) : putRow w b cs' t = w.setRow b cs' := by
  conv => rhs; rw [put_self h]
  rw [put_setRow_same]
theorem St.put {w0 w : World} {L : List (Nat × Array Value × TypeId)} (h : St w0 w L) (i : Nat) {b : Nat} {cs : Array Value} {t : TypeId} (hi : L[i]? = some (b, cs, t)) (cs' : Array Value) : St w0 (putRow w b cs' t) (L.set i (b, cs', t)) := by
  rw [put_is_setRow (h.blk i hi)]
  exact h.setRow i hi cs'
theorem St.lt {w0 w : World} {L : List (Nat × Array Value × TypeId)} (h : St w0 w L) (i : Nat) {b : Nat} {cs : Array Value} {t : TypeId} (hi : L[i]? = some (b, cs, t)) : b < w.heap.size := blk_lt (h.blk i hi)
theorem St.low {w0 w : World} {L : List (Nat × Array Value × TypeId)} (h : St w0 w L) (i : Nat) {b : Nat} {cs : Array Value} {t : TypeId} (hi : L[i]? = some (b, cs, t)) : w0.heap.size ≤ b := (h.2.1 _ (List.mem_of_getElem? hi)).1
theorem St.erase {w0 w : World} {L : List (Nat × Array Value × TypeId)} (h : St w0 w L) (i : Nat) : St w0 w (L.eraseIdx i) :=
  ⟨h.1, fun x hx => h.2.1 x (List.mem_of_mem_eraseIdx hx), h.2.2.sublist ((List.eraseIdx_sublist L i).map _)⟩
theorem St.take {w0 w : World} {L : List (Nat × Array Value × TypeId)} (h : St w0 w L) (n : Nat) : St w0 w (L.take n) :=
  ⟨h.1, fun x hx => h.2.1 x (List.mem_of_mem_take hx), by rw [List.map_take]; exact h.2.2.sublist (List.take_sublist _ _)⟩
theorem St.mono {w0 w w1 : World} {L : List (Nat × Array Value × TypeId)} (h : St w w1 L) (hb : Below w0.heap.size w0 w) : St w0 w1 L :=
  ⟨hb.trans (h.1.mono hb.size), fun x hx => ⟨Nat.le_trans hb.size (h.2.1 x hx).1, (h.2.1 x hx).2⟩, h.2.2⟩
end Go.Proofs.Ytcjncidahjneaaa

namespace Go.Proofs.Ytcjncidahjneaaa
open Go.RowKit

/-- What an operation of the front is: it yields this value; or it lays a new block and yields this of the block's number. -/
inductive Kind where
  | fix (v : Value)
  | fresh (mk : Nat → Value) (cs : Array Value) (t : TypeId)
def Kind.val : Kind → Nat → Value
  | .fix v, _ => v
  | .fresh mk _ _, n => mk n
abbrev Fact := Nat × Array Value × TypeId
def Kind.facts (i : Nat) : Kind → List Fact → List Fact
  | .fix _, F => F
  | .fresh _ cs t, F => (i, cs, t) :: F

section
variable {P : Program} {md : Region.Mode}

/-- The operation waits for that one, by its own word. -/
def direct (md : Region.Mode) (o : Oper) (j : Nat) : Bool := o.after.any fun e => Region.binds md e && e.on == j
/-- What the blocks hold for which the operation waits. -/
def FactsAt (md : Region.Mode) (o : Oper) (F : List Fact) (b : Nat → Nat) (w : World) : Prop := ∀ x ∈ F, direct md o x.1 = true → blk w (b x.1) = some (.cells x.2.1 x.2.2 (0, 0))
def stepOK (P : Program) (md : Region.Mode) (ops : Array Oper) (W : World) (o : Oper) (a : (Nat → Nat) → Act) (F : List Fact) : Kind → Prop
  | .fix v => ∀ b w', Cls W w' → FactsAt md o F b w' → (Region.wanted o (yielded ops (a b).tmps) = true ∧ o.quietAt P (a b) (Below w'.heap.size w') w' v) ∨ (Region.wanted o (yielded ops (a b).tmps) = false ∧ v = undef)
  | .fresh mk cs t => ∀ b w', Cls W w' → FactsAt md o F b w' → Region.wanted o (yielded ops (a b).tmps) = true ∧ (execOp (a b).eval o).run P w' = .ok (.value (mk w'.heap.size)) (w'.alloc (.cells cs t))
/-- The walk in the text's order. -/
def wpM (P : Program) (md : Region.Mode) (ops : Array Oper) (W : World) (Q : ((Nat → Nat) → Act) → List Fact → Prop) : List Oper → Nat → ((Nat → Nat) → Act) → List Fact → Prop
  | [], _, a, F => Q a F
  | o :: rest, i, a, F => ∃ κ : Kind, stepOK P md ops W o a F κ ∧ wpM P md ops W Q rest (i + 1) (fun b => (a b).put o.dst (κ.val (b i))) (κ.facts i F)

def actT : List (Oper × Kind) → Nat → Act → (Nat → Nat) → Act
  | [], _, a, _ => a
  | x :: r, i, a, b => actT r (i + 1) (a.put x.1.dst (x.2.val (b i))) b
def factsT : List (Oper × Kind) → Nat → List Fact → List Fact
  | [], _, F => F
  | x :: r, i, F => factsT r (i + 1) (x.2.facts i F)

theorem actT_snoc (x : Oper × Kind) (b : Nat → Nat) : ∀ (L : List (Oper × Kind)) (i : Nat) (a : Act), actT (L ++ [x]) i a b = (actT L i a b).put x.1.dst (x.2.val (b (i + L.length)))
  | [], _, _ => rfl
  | y :: L, i, a => by
    simp only [List.cons_append, actT, actT_snoc x b L (i + 1), List.length_cons]
    rw [show i + 1 + L.length = i + (L.length + 1) by omega]

theorem mem_factsT {f : Fact} : ∀ (L : List (Oper × Kind)) (i : Nat) (F : List Fact), f ∈ factsT L i F → f ∈ F ∨ ∃ k o mk, L[k]? = some (o, .fresh mk f.2.1 f.2.2) ∧ f.1 = i + k
  | [], _, _, h => .inl h
  | x :: L, i, F, h => by
    rcases mem_factsT L (i + 1) _ h with h1 | ⟨k, o, mk, hk, he⟩
    · obtain ⟨o, κ⟩ := x
      cases κ with
      | fix v => exact .inl h1
      | fresh mk cs t =>
        rcases List.mem_cons.1 h1 with rfl | h2
        · exact .inr ⟨0, o, mk, rfl, rfl⟩
        · exact .inl h2
    · exact .inr ⟨k + 1, o, mk, by simpa using hk, by omega⟩
/-- What the walk has shown. -/
theorem wpM_out {ops : Array Oper} {W : World} {Q : ((Nat → Nat) → Act) → List Fact → Prop} : ∀ (l : List Oper) (i : Nat) (a : (Nat → Nat) → Act) (F : List Fact), wpM P md ops W Q l i a F →
    ∃ L : List (Oper × Kind), L.map (·.1) = l ∧ (∀ k x, L[k]? = some x → stepOK P md ops W x.1 (fun b => actT (L.take k) i (a b) b) (factsT (L.take k) i F) x.2) ∧ Q (fun b => actT L i (a b) b) (factsT L i F)
  | [], _, _, _, h => ⟨[], rfl, fun k x hk => by simp at hk, h⟩
  | o :: rest, i, a, F, h => by
    obtain ⟨κ, h1, h2⟩ := h
    obtain ⟨L, e, h3, h4⟩ := wpM_out rest (i + 1) _ _ h2
    refine ⟨(o, κ) :: L, by simp [e], fun k x hk => ?_, h4⟩
    cases k with
    | zero =>
      simp only [List.getElem?_cons_zero, Option.some.injEq] at hk
      subst hk
      exact h1
    | succ k => exact h3 k x (by simpa using hk)

/-! ### What a frame holds, some operations being done -/
def Sees (L : List (Oper × Kind)) (a0 : Act) (lst : Nat → Bool) (b : Nat → Nat) (a : Act) : Prop :=
  a.defers = a0.defers ∧ a.tmps.size = a0.tmps.size ∧
  (∀ j x t, L[j]? = some x → x.1.dst = some t → lst j = true → t < a0.tmps.size → a.tmps[t]? = some (x.2.val (b j))) ∧
  (∀ t, (∀ j x, L[j]? = some x → x.1.dst = some t → lst j = false) → a.tmps[t]? = a0.tmps[t]?)
def Apart (L : List (Oper × Kind)) : Prop := ∀ (j k : Nat) (x y : Oper × Kind) (t : Tmp), L[j]? = some x → L[k]? = some y → x.1.dst = some t → y.1.dst = some t → j = k

theorem Sees.start (L : List (Oper × Kind)) (a0 : Act) (b : Nat → Nat) : Sees L a0 (fun _ => false) b a0 := ⟨rfl, rfl, fun _ _ _ _ _ (h : false = true) => (by cases h), fun _ _ => rfl⟩
theorem Sees.congr {L : List (Oper × Kind)} {a0 a : Act} {l1 l2 : Nat → Bool} {b1 b2 : Nat → Nat} (h : Sees L a0 l1 b1 a) (hl : ∀ j, j < L.length → l1 j = l2 j) (hb : ∀ j, j < L.length → l1 j = true → b1 j = b2 j) : Sees L a0 l2 b2 a := by
  have lt : ∀ {j x}, L[j]? = some x → j < L.length := fun h => (List.getElem?_eq_some_iff.1 h).1
  refine ⟨h.1, h.2.1, fun j x t hj hd hlj ht => ?_, fun t ht => h.2.2.2 t fun j x hj hd => (hl j (lt hj)).trans (ht j x hj hd)⟩
  have h1 : l1 j = true := (hl j (lt hj)).trans hlj
  rw [h.2.2.1 j x t hj hd h1 ht, hb j (lt hj) h1]
theorem Sees.put {L : List (Oper × Kind)} {a0 a : Act} {lst : Nat → Bool} {b : Nat → Nat} (hA : Apart L) (h : Sees L a0 lst b a) {i : Nat} {x : Oper × Kind} (hi : L[i]? = some x) :
    Sees L a0 (fun j => j == i || lst j) b (a.put x.1.dst (x.2.val (b i))) := by
  obtain ⟨h1, h2, h3, h4⟩ := h
  cases hd : x.1.dst with
  | none =>
    refine ⟨h1, h2, fun j y t hj hy hl ht => ?_, fun t ht => h4 t fun j y hj hy => ?_⟩
    · refine h3 j y t hj hy ?_ ht
      rcases Bool.or_eq_true _ _ ▸ hl with h5 | h5
      · have : j = i := by simpa using h5
        subst this
        rw [hi] at hj; cases hj; rw [hd] at hy; cases hy
      · exact h5
    · have := ht j y hj hy
      simp only [Bool.or_eq_false_iff] at this
      exact this.2
  | some d =>
    refine ⟨h1, by simp [Act.put, h2], fun j y t hj hy hl ht => ?_, fun t ht => ?_⟩
    · simp only [Act.put]
      by_cases hji : j = i
      · subst hji
        rw [hi] at hj; cases hj; rw [hd] at hy; cases hy
        simp [h2, ht]
      · have hne : d ≠ t := fun e => hji (hA j i y x t hj hi hy (by rw [hd, e]))
        rw [Array.getElem?_setIfInBounds_ne hne]
        refine h3 j y t hj hy ?_ ht
        simpa [hji] using hl
    · simp only [Act.put]
      have hne : d ≠ t := fun e => by
        have := ht i x hi (by rw [hd, e])
        simp at this
      rw [Array.getElem?_setIfInBounds_ne hne]
      exact h4 t fun j y hj hy => by
        have := ht j y hj hy
        simp only [Bool.or_eq_false_iff] at this
        exact this.2
theorem Sees.text {L : List (Oper × Kind)} (hA : Apart L) (a0 : Act) (b : Nat → Nat) : ∀ k, k ≤ L.length → Sees L a0 (fun j => decide (j < k)) b (actT (L.take k) 0 a0 b)
  | 0, _ => (Sees.start L a0 b).congr (fun j _ => by simp) (fun _ _ _ => rfl)
  | k + 1, hk => by
    have hg : L[k]? = some L[k] := List.getElem?_eq_getElem (by omega)
    have h1 := (Sees.text hA a0 b k (by omega)).put hA hg
    rw [List.take_succ_eq_append_getElem (by omega), actT_snoc]
    have e : 0 + (L.take k).length = k := by simp; omega
    rw [e]
    exact h1.congr (fun j _ => by rw [Bool.eq_iff_iff]; simp only [Bool.or_eq_true, beq_iff_eq, decide_eq_true_eq]; omega) (fun _ _ _ => rfl)
theorem Sees.same {L : List (Oper × Kind)} {a0 a1 a2 : Act} {l1 l2 : Nat → Bool} {b : Nat → Nat} (h1 : Sees L a0 l1 b a1) (h2 : Sees L a0 l2 b a2) (t : Tmp) (ht : ∀ j x, L[j]? = some x → x.1.dst = some t → l1 j = true ∧ l2 j = true) :
    a1.tmps[t]? = a2.tmps[t]? := by
  by_cases hj : ∃ (j : Nat) (x : Oper × Kind), L[j]? = some x ∧ x.1.dst = some t
  · obtain ⟨j, x, hj, hd⟩ := hj
    rcases Nat.lt_or_ge t a0.tmps.size with h | h
    · rw [h1.2.2.1 j x t hj hd (ht j x hj hd).1 h, h2.2.2.1 j x t hj hd (ht j x hj hd).2 h]
    · rw [Array.getElem?_eq_none (by rw [h1.2.1]; exact h), Array.getElem?_eq_none (by rw [h2.2.1]; exact h)]
  · have hn : ∀ (l : Nat → Bool) j x, L[j]? = some x → x.1.dst = some t → l j = false := fun l j x h3 h4 => (hj ⟨j, x, h3, h4⟩).elim
    rw [h1.2.2.2 t (hn l1), h2.2.2.2 t (hn l2)]

theorem eval_same {a1 a2 : Act} {ops : Array Oper} {o : Oper} (hs : ∀ cs b, o.op ≠ .select cs b) (h : ∀ t ∈ o.looksAt ops, a1.tmps[t]? = a2.tmps[t]?) :
    execOp a1.eval o = execOp a2.eval o ∧ Region.wanted o (yielded ops a1.tmps) = Region.wanted o (yielded ops a2.tmps) := by
  constructor
  · refine execOp_congr o hs fun x hx => ?_
    cases x with
    | tmp t =>
      have := h t (List.mem_append_left _ (List.mem_filterMap.2 ⟨.tmp t, by simpa using hx, rfl⟩))
      simp only [Act.eval, Array.getD_eq_getD_getElem?, this]
    | const v => rfl
    | global g => rfl
    | func f => rfl
  · unfold Region.wanted
    cases hg : o.guard with
    | none => rfl
    | some gw =>
      obtain ⟨g, want⟩ := gw
      have : yielded ops a1.tmps g = yielded ops a2.tmps g := by
        unfold yielded
        cases ht : (ops[g]?).bind (·.dst) with
        | none => rfl
        | some t =>
          have := h t (List.mem_append_right _ (by simp [hg, ht]))
          simp only [Option.bind_some, this]
      simp only [this]

theorem wp_of_at {o : Oper} {a : Act} {v : Value} {K : Act → World → Prop} {Q : Exit → Act → World → Prop} {w : World} {C : World → Prop} (hC : C w) (h : o.quietAt P a C w v) (hK : ∀ w', C w' → K (a.put o.dst v) w') : o.wp P a w K Q := by
  unfold Oper.quietAt at h
  unfold Oper.wp
  generalize (execOp a.eval o).run P w = r at *
  cases r with
  | halt x w' => exact h.elim
  | ok n w' =>
    cases n <;> simp only [Oper.quietUpon] at h <;> simp only [Oper.upon]
    case value u => obtain ⟨rfl, rfl⟩ := h; exact hK _ hC
    case skip => obtain ⟨rfl, rfl⟩ := h; exact hK _ hC
    case enter f args =>
      obtain ⟨rfl, h⟩ := h
      exact h.mono fun e w'' he => by obtain ⟨rfl, hw⟩ := he; exact hK _ hw

/-! ### How many are left -/
def left (listed : Array Bool) : Nat := listed.toList.countP (!·)
theorem left_set {listed : Array Bool} {i : Nat} (h : listed.getD i true = false) : left (listed.setIfInBounds i true) + 1 ≤ left listed := by
  have hi : i < listed.size := by
    rcases Nat.lt_or_ge i listed.size with h' | h'
    · exact h'
    · simp [Array.getElem?_eq_none h'] at h
  have hv : listed.toList[i]'(by simpa using hi) = false := by
    simp only [Array.getD, hi, dif_pos] at h
    simpa using h
  unfold left
  rw [Array.toList_setIfInBounds, List.countP_set (by simpa using hi)]
  have hp : 0 < listed.toList.countP (!·) := List.countP_pos_iff.2 ⟨listed.toList[i]'(by simpa using hi), List.getElem_mem _, by simp [hv]⟩
  rw [hv]
  simp only [Bool.not_false, Bool.not_true, if_true, Bool.false_eq_true, if_false]
  omega
theorem left_pos {listed : Array Bool} {i : Nat} (h : listed.getD i true = false) : 0 < left listed := by
  have := left_set h; omega

/-! ### The tail: each of its operations waits for all before it -/
def waits (md : Region.Mode) (ops : Array Oper) : Nat → Oper → Nat → Bool
  | 0, o, j => direct md o j
  | f + 1, o, j => direct md o j || o.after.any fun e => Region.binds md e && match ops[e.on]? with | some o' => waits md ops f o' j | none => false
/-- What is done, for that all is done which it waits for. -/
def Closed (md : Region.Mode) (ops : Array Oper) (listed : Array Bool) : Prop := ∀ (j : Nat) (o : Oper), ops[j]? = some o → listed.getD j false = true → ∀ e ∈ o.after, Region.binds md e = true → listed.getD e.on false = true
theorem waits_listed {ops : Array Oper} {listed : Array Bool} (hcl : Closed md ops listed) : ∀ (f : Nat) (o : Oper) (j : Nat), (∀ e ∈ o.after, Region.binds md e = true → listed.getD e.on false = true) → waits md ops f o j = true → listed.getD j false = true := by
  have base : ∀ (o : Oper) (j : Nat), (∀ e ∈ o.after, Region.binds md e = true → listed.getD e.on false = true) → direct md o j = true → listed.getD j false = true := fun o j hall hd => by
    obtain ⟨e, he, hb⟩ := Array.any_eq_true'.1 hd
    simp only [Bool.and_eq_true, beq_iff_eq] at hb
    rw [← hb.2]; exact hall e he hb.1
  intro f
  induction f with
  | zero => exact base
  | succ f ih =>
    intro o j hall h
    simp only [waits, Bool.or_eq_true] at h
    rcases h with h | h
    · exact base o j hall h
    · obtain ⟨e, he, hb⟩ := Array.any_eq_true'.1 h
      simp only [Bool.and_eq_true] at hb
      cases ho : ops[e.on]? with
      | none => simp [ho] at hb
      | some o' =>
        have h2 := hb.2
        simp only [ho] at h2
        exact ih o' j (hcl e.on o' ho (hall e he hb.1)) h2
theorem Closed.set {ops : Array Oper} {listed : Array Bool} (hcl : Closed md ops listed) {i : Nat} (hi : i ∈ Region.ready md ops listed) : Closed md ops (listed.setIfInBounds i true) := fun j o ho hl e he hb => by
  refine getD_set_true ?_
  by_cases hij : i = j
  · subst hij
    obtain ⟨_, o', ho', hall⟩ := mem_ready.1 hi
    rw [ho] at ho'; cases ho'
    exact hall e he hb
  · rw [getD_set_ne false hij] at hl
    exact hcl j o ho hl e he hb
theorem ready_waits {ops : Array Oper} {listed : Array Bool} (hcl : Closed md ops listed) {i j : Nat} {o : Oper} (hr : i ∈ Region.ready md ops listed) (ho : ops[i]? = some o) {f : Nat} (hd : waits md ops f o j = true) : listed.getD j false = true := by
  obtain ⟨_, o', ho', hall⟩ := mem_ready.1 hr
  rw [ho] at ho'
  cases ho'
  exact waits_listed hcl f o j hall hd
def tailOK (md : Region.Mode) (ops : Array Oper) (n : Nat) (T : List Oper) : Bool := (List.range T.length).all fun k => match T[k]? with | some t => (List.range (n + k)).all fun i => waits md ops 6 t i | none => true
theorem tailOK_spec {ops : Array Oper} {n k : Nat} {T : List Oper} (h : tailOK md ops n T = true) {t : Oper} (hk : T[k]? = some t) {i : Nat} (hi : i < n + k) : waits md ops 6 t i = true := by
  have hlt : k < T.length := (List.getElem?_eq_some_iff.1 hk).1
  have h1 := List.all_eq_true.1 h k (List.mem_range.2 hlt)
  simp only [hk] at h1
  exact List.all_eq_true.1 h1 i (List.mem_range.2 hi)
theorem direct_listed {ops : Array Oper} {listed : Array Bool} {i j : Nat} {o : Oper} (hr : i ∈ Region.ready md ops listed) (ho : ops[i]? = some o) (hd : direct md o j = true) : listed.getD j false = true := by
  obtain ⟨_, o', ho', hall⟩ := mem_ready.1 hr
  rw [ho] at ho'
  cases ho'
  obtain ⟨e, he, hb⟩ := Array.any_eq_true'.1 hd
  simp only [Bool.and_eq_true, beq_iff_eq] at hb
  rw [← hb.2]
  exact hall e he hb.1
theorem getD_flip {listed : Array Bool} {j : Nat} (hj : j < listed.size) (d e : Bool) : listed.getD j d = listed.getD j e := by simp [Array.getD, hj]

theorem any_tail {Q : Exit → Act → World → Prop} {l T : List Oper} (hdn : downB md (l ++ T) = true) (hT : tailOK md (l ++ T).toArray l.length T = true) : ∀ (r : List Oper) (k fuel : Nat) (listed : Array Bool) (a : Act) (w : World), T.drop k = r → listed.size = (l ++ T).length → Closed md (l ++ T).toArray listed →
    (∀ j, j < l.length + k → listed.getD j false = true) → (∀ j, l.length + k ≤ j → j < (l ++ T).length → listed.getD j true = false) → left listed ≤ fuel → wpList P (l ++ T).toArray Q r a w → wpAny P md (l ++ T).toArray Q fuel listed a w
  | [], k, fuel, listed, a, w, hr, hsz, hcl, hl, _, _, h => by
    have hk : T.length ≤ k := List.drop_eq_nil_iff.1 hr
    refine ready_none ?_ h fuel
    rw [List.eq_nil_iff_forall_not_mem]
    intro i hi
    obtain ⟨h0, o, ho, _⟩ := mem_ready.1 hi
    have hi' : i < (l ++ T).length := by simpa using (Array.getElem?_eq_some_iff.1 ho).1
    have h1 := hl i (by simp only [List.length_append] at hi'; omega)
    rw [getD_flip (by omega) true false, h1] at h0
    cases h0
  | o :: r, k, fuel, listed, a, w, hr, hsz, hcl, hl, hu, hf, h => by
    have hk : k < T.length := by
      rcases Nat.lt_or_ge k T.length with h' | h'
      · exact h'
      · rw [List.drop_of_length_le h'] at hr; cases hr
    have ho : T[k]? = some o := by
      have := congrArg (fun l => l[0]?) hr
      simpa using this
    have hgo : (l ++ T).toArray[l.length + k]? = some o := by
      simp only [List.getElem?_toArray]
      rw [List.getElem?_append_right (by omega), Nat.add_sub_cancel_left, ho]
    have hun : listed.getD (l.length + k) true = false := hu _ (Nat.le_refl _) (by simp; omega)
    cases fuel with
    | zero => have := left_pos hun; omega
    | succ fuel =>
      refine ⟨fun h0 => absurd h0 (some_ready hdn hsz (l.length + k) (by simp; omega) hun), fun i hi => ?_⟩
      have hik : i = l.length + k := by
        obtain ⟨h0, oi, hoi, _⟩ := mem_ready.1 hi
        have hi' : i < (l ++ T).length := by simpa using (Array.getElem?_eq_some_iff.1 hoi).1
        rcases Nat.lt_trichotomy i (l.length + k) with h' | h' | h'
        · rw [getD_flip (by omega) true false, hl i h'] at h0; cases h0
        · exact h'
        · have hoT : T[i - l.length]? = some oi := by
            simp only [List.getElem?_toArray] at hoi
            rwa [List.getElem?_append_right (by omega)] at hoi
          have := ready_waits hcl hi hoi (tailOK_spec hT hoT (i := l.length + k) (by omega))
          rw [getD_flip (by simp only [List.length_append] at hsz; omega) false true, hun] at this
          cases this
      subst hik
      have hw : wpOp P (l ++ T).toArray Q (l.length + k) (wpList P (l ++ T).toArray Q r) a w := by
        unfold wpOp
        rw [hgo]
        exact h
      have hd : T.drop (k + 1) = r := by
        have := congrArg List.tail hr
        simpa using this
      refine wpOp_mono (fun a' w' h' => any_tail hdn hT r (k + 1) fuel _ a' w' hd (by simpa using hsz) (hcl.set hi) (fun j hj => ?_) (fun j hj hj2 => ?_) (by have := left_set hun; omega) h') hw
      · by_cases hjk : l.length + k = j
        · subst hjk
          have : l.length + k < listed.size := by simp only [List.length_append] at hsz; omega
          simp [Array.getD, this]
        · rw [getD_set_ne false hjk]; exact hl j (by omega)
      · rw [getD_set_ne true (by omega)]; exact hu j (by omega) hj2

/-! ### The front -/
def frontOK (md : Region.Mode) (l T : List Oper) : Bool :=
  Region.noSelect l.toArray && downB md (l ++ T) && tailOK md (l ++ T).toArray l.length T &&
  (List.range l.length).all fun i => match l[i]? with
    | some o => (List.range l.length).all fun j => match l[j]? with
      | some y => match y.dst with
        | some t => (i == j || o.dst != some t) && (!(o.looksAt (l ++ T).toArray).contains t || (decide (j < i) && direct md o j))
        | none => true
      | none => true
    | none => true

/-- What the new blocks hold, and where they lie. -/
def New (W : World) (L : List (Oper × Kind)) (lst : Nat → Bool) (b : Nat → Nat) (w : World) : Prop :=
  Cls W w ∧ (∀ j o mk cs t, L[j]? = some (o, .fresh mk cs t) → lst j = true → W.heap.size ≤ b j ∧ blk w (b j) = some (.cells cs t (0, 0))) ∧
  (∀ i j x y mx cx tx my cy ty, L[i]? = some (x, .fresh mx cx tx) → L[j]? = some (y, .fresh my cy ty) → lst i = true → lst j = true → i ≠ j → b i ≠ b j)
theorem New.step {W w w' : World} {L : List (Oper × Kind)} {l1 l2 : Nat → Bool} {b : Nat → Nat} (h : New W L l1 b w) (hb : Below w.heap.size w w') (hl : ∀ j o mk cs t, L[j]? = some (o, .fresh mk cs t) → l2 j = true → l1 j = true) : New W L l2 b w' :=
  ⟨h.1.step hb, fun j o mk cs t hj hl2 => by
    have h1 := h.2.1 j o mk cs t hj (hl j o mk cs t hj hl2)
    exact ⟨h1.1, (hb.block _ (blk_lt h1.2)).trans h1.2⟩,
   fun i j x y mx cx tx my cy ty hi hj h1 h2 => h.2.2 i j x y mx cx tx my cy ty hi hj (hl i _ _ _ _ hi h1) (hl j _ _ _ _ hj h2)⟩
theorem New.lay {W w : World} {L : List (Oper × Kind)} {lst : Nat → Bool} {b : Nat → Nat} (h : New W L lst b w) {i : Nat} {o : Oper} {mk : Nat → Value} {cs : Array Value} {t : TypeId} (hi : L[i]? = some (o, .fresh mk cs t)) (hun : lst i = false) :
    New W L (fun j => j == i || lst j) (fun j => if j = i then w.heap.size else b j) (w.alloc (.cells cs t)) := by
  have hb : Below w.heap.size w (w.alloc (.cells cs t)) := (Below.refl _ _).alloc (Nat.le_refl _) _
  refine ⟨h.1.step hb, fun j o' mk' cs' t' hj hl => ?_, fun p q x y mx cx tx my cy ty hp hq h1 h2 hne => ?_⟩ <;> dsimp only
  · by_cases hji : j = i
    · subst hji
      rw [hi] at hj; cases hj
      rw [if_pos rfl]
      exact ⟨h.1.size, by rw [blk_alloc, if_pos rfl]⟩
    · rw [if_neg hji]
      have h1 := h.2.1 j o' mk' cs' t' hj (by simpa [hji] using hl)
      exact ⟨h1.1, (hb.block _ (blk_lt h1.2)).trans h1.2⟩
  · have old : ∀ j x mx cx tx, L[j]? = some (x, .fresh mx cx tx) → (j == i || lst j) = true → j ≠ i → b j < w.heap.size := fun j x mx cx tx hj hl hne =>
      blk_lt (h.2.1 j x mx cx tx hj (by simpa [hne] using hl)).2
    by_cases hpi : p = i
    · subst hpi
      rw [if_pos rfl, if_neg (Ne.symm hne)]
      have := old q y my cy ty hq h2 (Ne.symm hne)
      omega
    · rw [if_neg hpi]
      by_cases hqi : q = i
      · subst hqi
        rw [if_pos rfl]
        have := old p x mx cx tx hp h1 hpi
        omega
      · rw [if_neg hqi]
        exact h.2.2 p q x y mx cx tx my cy ty hp hq (by simpa [hpi] using h1) (by simpa [hqi] using h2) hne

theorem any_front {Q : Exit → Act → World → Prop} {l T : List Oper} {W : World} {a0 : Act} {L : List (Oper × Kind)} (hB : frontOK md l T = true) (hL : L.map (·.1) = l)
    (hstep : ∀ k x, L[k]? = some x → stepOK P md (l ++ T).toArray W x.1 (fun b => actT (L.take k) 0 a0 b) (factsT (L.take k) 0 []) x.2)
    (hQ : ∀ b w', New W L (fun _ => true) b w' → wpList P (l ++ T).toArray Q T (actT L 0 a0 b) w') :
    ∀ (fuel : Nat) (listed : Array Bool) (b : Nat → Nat) (a : Act) (w : World), listed.size = (l ++ T).length → Closed md (l ++ T).toArray listed → (∀ j, l.length ≤ j → j < (l ++ T).length → listed.getD j true = false) → left listed ≤ fuel →
      Sees L a0 (fun j => listed.getD j false) b a → New W L (fun j => listed.getD j false) b w → wpAny P md (l ++ T).toArray Q fuel listed a w := by
  simp only [frontOK, Bool.and_eq_true] at hB
  obtain ⟨⟨⟨hsel, hdn⟩, hT⟩, hall⟩ := hB
  have hLl : L.length = l.length := by rw [← hL]; simp
  have hlo : ∀ {i : Nat} {x : Oper × Kind}, L[i]? = some x → l[i]? = some x.1 := fun {i x} h => by rw [← hL]; simp [h]
  have hpair : ∀ {i j : Nat} {x y : Oper × Kind} {t : Tmp}, L[i]? = some x → L[j]? = some y → y.1.dst = some t →
      ((i = j ∨ x.1.dst ≠ some t) ∧ (t ∈ x.1.looksAt (l ++ T).toArray → j < i ∧ direct md x.1 j = true)) := fun {i j x y t} hi hj hd => by
    have hil : i < l.length := by rw [← hLl]; exact (List.getElem?_eq_some_iff.1 hi).1
    have hjl : j < l.length := by rw [← hLl]; exact (List.getElem?_eq_some_iff.1 hj).1
    have h1 := List.all_eq_true.1 hall i (List.mem_range.2 hil)
    simp only [hlo hi] at h1
    have h2 := List.all_eq_true.1 h1 j (List.mem_range.2 hjl)
    simp only [hlo hj, hd, Bool.and_eq_true, Bool.or_eq_true, beq_iff_eq, bne_iff_ne, Bool.not_eq_true', decide_eq_true_eq] at h2
    refine ⟨h2.1, fun ht => h2.2.resolve_left ?_⟩
    simp [ht]
  have hA : Apart L := fun j k x y t hj hk hx hy => ((hpair hj hk hy).1).resolve_right fun h => h hx
  have hfin : ∀ (fuel : Nat) (listed : Array Bool) (b : Nat → Nat) (a : Act) (w : World), listed.size = (l ++ T).length → Closed md (l ++ T).toArray listed → (∀ j, l.length ≤ j → j < (l ++ T).length → listed.getD j true = false) → left listed ≤ fuel →
      Sees L a0 (fun j => listed.getD j false) b a → New W L (fun j => listed.getD j false) b w → (∀ j, j < l.length → listed.getD j false = true) → wpAny P md (l ++ T).toArray Q fuel listed a w := by
    intro fuel listed b a w hsz hcl hu hf hS hN hdone
    have ha : a = actT L 0 a0 b := by
      have h2 := Sees.text hA a0 b L.length (Nat.le_refl _)
      rw [List.take_length] at h2
      have ht : a.tmps = (actT L 0 a0 b).tmps := Array.ext_getElem? fun t => hS.same h2 t fun j x hj _ => by
        have hjl : j < L.length := (List.getElem?_eq_some_iff.1 hj).1
        exact ⟨hdone j (by omega), by simpa using hjl⟩
      have hd : a.defers = (actT L 0 a0 b).defers := hS.1.trans h2.1.symm
      cases a
      cases h : actT L 0 a0 b
      rw [h] at ht hd
      simp only at ht hd
      rw [ht, hd]
    subst ha
    have hN' : New W L (fun _ => true) b w := hN.step (Below.refl _ _) fun j o mk cs t hj _ => hdone j (by rw [← hLl]; exact (List.getElem?_eq_some_iff.1 hj).1)
    exact any_tail hdn hT T 0 fuel listed _ w rfl hsz hcl (fun j hj => hdone j (by simpa using hj)) (fun j hj hj2 => hu j (by simpa using hj) hj2) hf (hQ b w hN')
  intro fuel
  induction fuel with
  | zero =>
    intro listed b a w hsz hcl hu hf hS hN
    refine hfin 0 listed b a w hsz hcl hu hf hS hN fun j hj => ?_
    cases hv : listed.getD j false with
    | true => rfl
    | false =>
      rw [getD_flip (by simp only [List.length_append] at hsz; omega) false true] at hv
      have := left_pos hv; omega
  | succ fuel ih =>
    intro listed b a w hsz hcl hu hf hS hN
    by_cases hdone : ∀ j, j < l.length → listed.getD j false = true
    · exact hfin (fuel + 1) listed b a w hsz hcl hu hf hS hN hdone
    · simp only [Classical.not_forall] at hdone
      obtain ⟨m, hm, hmu⟩ := hdone
      have hmu' : listed.getD m false = false := by simpa using hmu
      have hmt : listed.getD m true = false := by rw [getD_flip (by simp only [List.length_append] at hsz; omega) true false]; exact hmu'
      refine ⟨fun h0 => absurd h0 (some_ready hdn hsz m (by simp only [List.length_append]; omega) hmt), fun i hi => ?_⟩
      obtain ⟨hiu, oi, hoi, _⟩ := mem_ready.1 hi
      have hi' : i < (l ++ T).length := by simpa using (Array.getElem?_eq_some_iff.1 hoi).1
      have hil : i < l.length := by
        rcases Nat.lt_or_ge i l.length with h' | h'
        · exact h'
        · have hoT : T[i - l.length]? = some oi := by
            simp only [List.getElem?_toArray] at hoi
            rwa [List.getElem?_append_right h'] at hoi
          have := ready_waits hcl hi hoi (tailOK_spec hT hoT (i := m) (by omega))
          rw [hmu'] at this; cases this
      have hgx : L[i]? = some (L[i]'(by omega)) := List.getElem?_eq_getElem (by omega)
      generalize L[i]'(by omega) = x at hgx
      have hox : oi = x.1 := by
        simp only [List.getElem?_toArray] at hoi
        rw [List.getElem?_append_left hil, hlo hgx] at hoi
        exact (Option.some.inj hoi).symm
      subst hox
      have hsel' : ∀ cs b, x.1.op ≠ .select cs b := fun cs b => Region.noSelect_spec hsel i x.1 cs b (by simpa using hlo hgx)
      have htext := Sees.text hA a0 b i (by omega)
      have hiu' : listed.getD i false = false := by rw [getD_flip (by omega) false true]; exact hiu
      -- the frame in the text's order looks the same to this operation
      have hsame := eval_same (ops := (l ++ T).toArray) hsel' (a1 := a) (a2 := actT (L.take i) 0 a0 b) fun t ht => hS.same htext t fun j y hj hd => by
        have h1 := (hpair hgx hj hd).2 ht
        exact ⟨direct_listed hi hoi h1.2, by simpa using h1.1⟩
      have hF : FactsAt md x.1 (factsT (L.take i) 0 []) b w := fun f hf hd => by
        rcases mem_factsT _ _ _ hf with h1 | ⟨k, o, mk, hk, he⟩
        · cases h1
        · have hk' : L[k]? = some (o, .fresh mk f.2.1 f.2.2) := by
            rw [List.getElem?_take] at hk
            split at hk
            · exact hk
            · cases hk
          have : f.1 = k := by omega
          rw [this] at hd ⊢
          exact (hN.2.1 k o mk _ _ hk' (direct_listed hi hoi hd)).2
      have hst := hstep i x hgx
      have hset : ∀ j, j < L.length → (j == i || listed.getD j false) = (listed.setIfInBounds i true).getD j false := fun j hj => by
        by_cases hji : i = j
        · subst hji
          simp [Array.getD, show i < listed.size by omega]
        · rw [getD_set_ne false hji]; simp [Ne.symm hji]
      have hu' : ∀ j, l.length ≤ j → j < (l ++ T).length → (listed.setIfInBounds i true).getD j true = false := fun j hj hj2 => by
        rw [getD_set_ne true (by omega)]; exact hu j hj hj2
      have hf' : left (listed.setIfInBounds i true) ≤ fuel := by have := left_set hiu; omega
      have hgo : ∀ (b' : Nat → Nat) (w' : World), Sees L a0 (fun j => j == i || listed.getD j false) b' (a.put x.1.dst (x.2.val (b' i))) → New W L (fun j => j == i || listed.getD j false) b' w' →
          wpAny P md (l ++ T).toArray Q fuel (listed.setIfInBounds i true) (a.put x.1.dst (x.2.val (b' i))) w' := fun b' w' hS' hN' =>
        ih _ b' _ w' (by simpa using hsz) (hcl.set hi) hu' hf' (hS'.congr hset (fun _ _ _ => rfl)) (hN'.step (Below.refl _ _) fun j o mk cs t hj hl => by
          rw [hset j (List.getElem?_eq_some_iff.1 hj).1]; exact hl)
      obtain ⟨o, κ⟩ := x
      unfold wpOp
      rw [hoi]
      simp only
      cases κ with
      | fix v =>
        have hkeep : ∀ w', Below w.heap.size w w' → New W L (fun j => j == i || listed.getD j false) b w' := fun w' hb => hN.step hb fun j o' mk cs t hj hl => by
          by_cases hji : j = i
          · subst hji; rw [hgx] at hj; cases hj
          · simpa [hji] using hl
        have hS' := hS.put hA hgx
        rcases hst b w hN.1 hF with ⟨hw, hq⟩ | ⟨hw, hv⟩
        · rw [← hsame.2] at hw
          rw [if_pos hw]
          refine .inl (wp_of_at (C := Below w.heap.size w) (Below.refl _ _) (v := v) ?_ fun w' hb => hgo b w' hS' (hkeep w' hb))
          unfold Oper.quietAt at hq ⊢
          rw [hsame.1]
          exact hq
        · rw [← hsame.2] at hw
          rw [if_neg (by rw [hw]; decide)]
          have h1 := hgo b w hS' (hkeep w (Below.refl _ _))
          simp only [Kind.val, hv] at h1
          exact h1
      | fresh mk cs t =>
        have hN' := hN.lay hgx hiu'
        have hS1 : Sees L a0 (fun j => listed.getD j false) (fun j => if j = i then w.heap.size else b j) a := hS.congr (fun _ _ => rfl) fun j _ hl => by
          rw [if_neg]
          intro e
          subst e
          rw [hiu'] at hl; cases hl
        have hS' := hS1.put hA hgx
        obtain ⟨hw, hr⟩ := hst b w hN.1 hF
        rw [← hsame.2] at hw
        rw [if_pos hw]
        refine .inl ?_
        have h1 := hgo _ _ hS' hN'
        unfold Oper.wp
        rw [hsame.1, hr, Oper.upon_value]
        simpa [Kind.val] using h1

/-- **The region: one walk in the text's order.** -/
theorem region_mono {id : Nat} {Q : Exit → Act → World → Prop} {a : Act} {w : World} (l T : List Oper) (hm : P.follows .mixedOrders = true) (hB : frontOK .any l T = true)
    (h : wpM P .any (l ++ T).toArray w (fun a' F => ∀ b w', Cls w w' → (∀ x ∈ F, w.heap.size ≤ b x.1 ∧ blk w' (b x.1) = some (.cells x.2.1 x.2.2 (0, 0))) → (∀ x ∈ F, ∀ y ∈ F, x.1 ≠ y.1 → b x.1 ≠ b y.1) → wpList P (l ++ T).toArray Q T (a' b) w') l 0 (fun _ => a) []) :
    (Code.region id (l ++ T).toArray true).wp P Q a w := by
  obtain ⟨L, hL, hstep, hQ⟩ := wpM_out l 0 _ [] h
  refine wp_region_any hm (any_front hB hL hstep (fun b w' hN => hQ b w' hN.1 (fun x hx => ?_) (fun x hx y hy hne => ?_)) _ _ (fun _ => 0) a _ (by simp) (fun j o _ hl => by simp only [Array.getD] at hl; split at hl <;> simp at hl) (fun j _ hj => by simp only [List.length_append] at hj; simp [Array.getD]; omega) ?_ ?_ ?_)
  · rcases mem_factsT _ _ _ hx with h1 | ⟨k, o, mk, hk, he⟩
    · cases h1
    · have : x.1 = k := by omega
      rw [this]
      exact hN.2.1 k o mk _ _ hk rfl
  · rcases mem_factsT _ _ _ hx with h1 | ⟨k, o, mk, hk, he⟩
    · cases h1
    rcases mem_factsT _ _ _ hy with h1 | ⟨k', o', mk', hk', he'⟩
    · cases h1
    have e1 : x.1 = k := by omega
    have e2 : y.1 = k' := by omega
    rw [e1, e2] at hne ⊢
    exact hN.2.2 k k' _ _ _ _ _ _ _ _ hk hk' rfl rfl hne
  · unfold left
    exact Nat.le_trans List.countP_le_length (by simp)
  · refine (Sees.start L a (fun _ => 0)).congr (fun j _ => ?_) (fun _ _ _ => rfl)
    simp only [Array.getD]
    split <;> simp
  · refine ⟨⟨rfl, rfl, rfl, Nat.le_refl _, fun _ _ => rfl⟩, fun j o mk cs t hj hl => ?_, fun i j x y mx cx tx my cy ty hi hj h1 _ => ?_⟩
    · simp only [Array.getD] at hl
      split at hl <;> simp at hl
    · simp only [Array.getD] at h1
      split at h1 <;> simp at h1

theorem Bv {id : Nat} {Q : Exit → Act → World → Prop} {a : Act} {w : World} {l : List Oper} (n : Nat) (hm : P.follows .mixedOrders = true) (hB : frontOK .any (l.take n) (l.drop n) = true)
    (h : wpM P .any l.toArray w (fun a' F => ∀ b w', Cls w w' → (∀ x ∈ F, w.heap.size ≤ b x.1 ∧ blk w' (b x.1) = some (.cells x.2.1 x.2.2 (0, 0))) → (∀ x ∈ F, ∀ y ∈ F, x.1 ≠ y.1 → b x.1 ≠ b y.1) → wpList P l.toArray Q (l.drop n) (a' b) w') (l.take n) 0 (fun _ => a) []) :
    (Code.region id l.toArray true).wp P Q a w := by
  have := region_mono (P := P) (id := id) (Q := Q) (a := a) (w := w) (l.take n) (l.drop n) hm hB (by rwa [List.take_append_drop])
  rwa [List.take_append_drop] at this

variable {ops : Array Oper} {W : World} {Q : ((Nat → Nat) → Act) → List Fact → Prop} {o : Oper} {rest : List Oper} {i : Nat} {a : (Nat → Nat) → Act} {F : List Fact}
theorem wpM_nil (h : Q a F) : wpM P md ops W Q [] i a F := h
theorem Dc (hw : ∀ b, Region.wanted o (yielded ops (a b).tmps) = false) (h : wpM P md ops W Q rest (i + 1) (fun b => (a b).put o.dst undef) F) : wpM P md ops W Q (o :: rest) i a F :=
  ⟨.fix undef, fun b _ _ _ => .inr ⟨hw b, rfl⟩, h⟩
theorem Dd (hw : ∀ b, Region.wanted o (yielded ops (a b).tmps) = true)
    (h : ∀ K : ((Nat → Nat) → Act) → List Fact → Prop, (∀ a F, wpM P md ops W Q rest (i + 1) a F → K a F) → ∃ v, (∀ b w', Cls W w' → FactsAt md o F b w' → o.quietAt P (a b) (Below w'.heap.size w') w' v) ∧ K (fun b => (a b).put o.dst v) F) : wpM P md ops W Q (o :: rest) i a F := by
  obtain ⟨v, h1, h2⟩ := h (fun a F => wpM P md ops W Q rest (i + 1) a F) (fun _ _ h => h)
  exact ⟨.fix v, fun b w' hw' hF => .inl ⟨hw b, h1 b w' hw' hF⟩, h2⟩
theorem Cw {t : TypeId} (ho : o.op = .alloc t) (hw : ∀ b, Region.wanted o (yielded ops (a b).tmps) = true) (cs : Array Value) (hz : ∀ w, (execOp (fun _ => undef) { o with op := .alloc t }).run P w = .ok (.value (.pointer (some ⟨w.heap.size, 0, none⟩))) (w.alloc (.cells cs t)))
    (h : wpM P md ops W Q rest (i + 1) (fun b => (a b).put o.dst (.pointer (some ⟨b i, 0, none⟩))) ((i, cs, t) :: F)) : wpM P md ops W Q (o :: rest) i a F :=
  ⟨.fresh (fun n => .pointer (some ⟨n, 0, none⟩)) cs t, fun b w' _ _ => ⟨hw b, by
    have : execOp (a b).eval o = execOp (fun _ => undef) { o with op := .alloc t } := by
      obtain ⟨dst, op, type, pos, after, guard⟩ := o
      simp only at ho
      subst ho
      rfl
    rw [this]; exact hz w'⟩, h⟩
theorem wpM_slice (n c : Nat) (t : TypeId) (hw : ∀ b, Region.wanted o (yielded ops (a b).tmps) = true) (cs : Array Value)
    (hz : ∀ b w', Cls W w' → FactsAt md o F b w' → (execOp (a b).eval o).run P w' = .ok (.value (.slice (some ⟨w'.heap.size, 0, none⟩) n c)) (w'.alloc (.cells cs t)))
    (h : wpM P md ops W Q rest (i + 1) (fun b => (a b).put o.dst (.slice (some ⟨b i, 0, none⟩) n c)) ((i, cs, t) :: F)) : wpM P md ops W Q (o :: rest) i a F :=
  ⟨.fresh (fun m => .slice (some ⟨m, 0, none⟩) n c) cs t, fun b w' hw' hF => ⟨hw b, hz b w' hw' hF⟩, h⟩
def isSlice (o : Oper) : Bool := match o.op with | .buildSlice .. => true | .makeSlice .. => true | _ => false
theorem Cr (_ : isSlice o = true) (hw : ∀ b, Region.wanted o (yielded ops (a b).tmps) = true)
    (h : ∀ K : ((Nat → Nat) → Act) → List Fact → Prop, (∀ a F, wpM P md ops W Q rest (i + 1) a F → K a F) → ∃ n c t cs, (∀ b w', Cls W w' → FactsAt md o F b w' → (execOp (a b).eval o).run P w' = .ok (.value (.slice (some ⟨w'.heap.size, 0, none⟩) n c)) (w'.alloc (.cells cs t))) ∧ K (fun b => (a b).put o.dst (.slice (some ⟨b i, 0, none⟩) n c)) ((i, cs, t) :: F)) :
    wpM P md ops W Q (o :: rest) i a F := by
  obtain ⟨n, c, t, cs, h1, h2⟩ := h (fun a F => wpM P md ops W Q rest (i + 1) a F) (fun _ _ h => h)
  exact wpM_slice n c t hw cs h1 h2
end
theorem FactsAt.at {md : Region.Mode} {o : Oper} {F : List Fact} {b : Nat → Nat} {w : World} {i : Nat} {cs : Array Value} {t : TypeId} (h : FactsAt md o F b w) (hm : (i, cs, t) ∈ F) (hd : direct md o i = true) : blk w (b i) = some (.cells cs t (0, 0)) := h _ hm hd
theorem St.news {w0 W w' : World} {L : List (Nat × Array Value × TypeId)} {b : Nat → Nat} (h : St w0 W L) (hc : Cls W w') : ∀ (F : List Fact), (F.map (·.1)).Nodup → (∀ x ∈ F, W.heap.size ≤ b x.1 ∧ Go.Proofs.Ytcjncidahjneaaa.blk w' (b x.1) = some (.cells x.2.1 x.2.2 (0, 0))) →
    (∀ x ∈ F, ∀ y ∈ F, x.1 ≠ y.1 → b x.1 ≠ b y.1) → St w0 w' (F.map (fun x => (b x.1, x.2.1, x.2.2)) ++ L)
  | [], _, _, _ => h.cls hc
  | f :: F, hd, hF, hN => by
    simp only [List.map_cons, List.nodup_cons] at hd
    have h1 := St.news h hc F hd.2 (fun x hx => hF x (List.mem_cons_of_mem _ hx)) (fun x hx y hy => hN x (List.mem_cons_of_mem _ hx) y (List.mem_cons_of_mem _ hy))
    have hf := hF f (List.mem_cons_self ..)
    refine ⟨h1.1, fun x hx => ?_, ?_⟩
    · rcases List.mem_cons.1 hx with rfl | hx
      · exact ⟨Nat.le_trans h.1.size hf.1, hf.2⟩
      · exact h1.2.1 x hx
    · simp only [List.map_cons, List.cons_append, List.nodup_cons]
      refine ⟨fun hm => ?_, h1.2.2⟩
      rw [List.map_append, List.mem_append] at hm
      rcases hm with hm | hm
      · simp only [List.map_map, List.mem_map, Function.comp] at hm
        obtain ⟨y, hy, he⟩ := hm
        by_cases h2 : y.1 = f.1
        · exact hd.1 (List.mem_map.2 ⟨y, hy, h2⟩)
        · exact hN y (List.mem_cons_of_mem _ hy) f (List.mem_cons_self ..) h2 he
      · obtain ⟨y, hy, he⟩ := List.mem_map.1 hm
        have := blk_lt (h.2.1 y hy).2
        omega
end Go.Proofs.Ytcjncidahjneaaa

namespace Go.Proofs.Ytcjncidahjneaaa
open Go.RowKit

@[go_sem] theorem wide_fn (f : FuncId) : Fence.wide.fn f = True := rfl
@[go_sem] theorem wide_fn_r (l : Nat) (f : FuncId) : (Fence.wide.inRound l).fn f = True := rfl
@[go_sem] theorem wide_depth : Fence.wide.depth = none := rfl
@[go_sem] theorem wide_depth_r (l : Nat) : (Fence.wide.inRound l).depth = none := rfl
/-- These blocks hold these objects, and no block stands twice. -/
def Holds (W : World) (L : List (Nat × Obj)) : Prop := (∀ x ∈ L, W.heap[x.1]? = some x.2) ∧ (L.map (·.1)).Nodup
/-- Nothing that lay has turned, but for these blocks. -/
structure Kept (B : List Nat) (W W' : World) : Prop where
  os : W'.os = W.os
  tape : W'.tape = W.tape
  output : W'.output = W.output
  size : W.heap.size ≤ W'.heap.size
  block : ∀ k, k < W.heap.size → k ∉ B → W'.heap[k]? = W.heap[k]?
theorem Kept.refl (B : List Nat) (W : World) : Kept B W W := ⟨rfl, rfl, rfl, Nat.le_refl _, fun _ _ _ => rfl⟩
theorem Kept.of_below {B : List Nat} {W W' : World} (h : Below W.heap.size W W') : Kept B W W' := ⟨h.os, h.tape, h.output, h.size, fun k hk _ => h.block k hk⟩
theorem Kept.trans {B C : List Nat} {W W1 W2 : World} (h : Kept B W W1) (k : Kept C W1 W2) (hc : ∀ b ∈ C, b ∈ B ∨ W.heap.size ≤ b) : Kept B W W2 :=
  ⟨k.os.trans h.os, k.tape.trans h.tape, k.output.trans h.output, Nat.le_trans h.size k.size, fun b hb hn => by
    have h1 := h.size
    refine (k.block b (by omega) (fun hm => ?_)).trans (h.block b hb hn)
    rcases hc b hm with h | h
    · exact hn h
    · omega⟩
theorem Kept.below {B : List Nat} {W W' : World} {n : Nat} (h : Kept B W W') (hn : n ≤ W.heap.size) (hB : ∀ b ∈ B, n ≤ b) : Below n W W' :=
  ⟨h.os, h.tape, h.output, h.size, fun k hk => h.block k (by omega) (fun hm => by have := hB k hm; omega)⟩
/-- A step of the loop: its blocks behind it; all else lies as it lay; a new one of them is a new block. -/
structure Rd (L : List (Nat × Obj)) (W : World) (L' : List (Nat × Obj)) (W' : World) : Prop where
  holds : Holds W' L'
  kept : Kept (L.map (·.1)) W W'
  fresh : ∀ x ∈ L', x.1 ∈ L.map (·.1) ∨ W.heap.size ≤ x.1
theorem Rd.refl {L : List (Nat × Obj)} {W : World} (h : Holds W L) : Rd L W L W := ⟨h, .refl _ _, fun x hx => .inl (List.mem_map.2 ⟨x, hx, rfl⟩)⟩
theorem Rd.trans {L L1 L2 : List (Nat × Obj)} {W W1 W2 : World} (h : Rd L W L1 W1) (k : Rd L1 W1 L2 W2) : Rd L W L2 W2 := by
  have hs := h.kept.size
  refine ⟨k.holds, h.kept.trans k.kept (fun b hb => ?_), fun x hx => ?_⟩
  · obtain ⟨y, hy, rfl⟩ := List.mem_map.1 hb
    exact h.fresh y hy
  · rcases k.fresh x hx with hm | hm
    · obtain ⟨y, hy, he⟩ := List.mem_map.1 hm
      rw [← he]; exact h.fresh y hy
    · exact .inr (by omega)
theorem Holds.lt {W : World} {L : List (Nat × Obj)} (h : Holds W L) {x : Nat × Obj} (hx : x ∈ L) : x.1 < W.heap.size := (Array.getElem?_eq_some_iff.1 (h.1 x hx)).1
theorem Holds.kept {W W' : World} {L : List (Nat × Obj)} {B : List Nat} (h : Holds W L) (k : Kept B W W') (hB : ∀ x ∈ L, x.1 ∉ B) : Holds W' L :=
  ⟨fun x hx => (k.block _ (h.lt hx) (hB x hx)).trans (h.1 x hx), h.2⟩
/-- What calls lay: the loop's blocks are as they were. -/
theorem Rd.call {L : List (Nat × Obj)} {W W' : World} (h : Holds W L) (hb : Below W.heap.size W W') : Rd L W L W' :=
  ⟨h.kept (B := []) (Kept.of_below hb) (fun _ _ => List.not_mem_nil), Kept.of_below hb, fun x hx => .inl (List.mem_map.2 ⟨x, hx, rfl⟩)⟩
/-- A block that is none of the loop's is as it was. -/
theorem Rd.far {L L' : List (Nat × Obj)} {W W' : World} (h : Rd L W L' W') {b : Nat} {o : Obj} (hb : W.heap[b]? = some o) (hn : b ∉ L.map (·.1)) : W'.heap[b]? = some o ∧ b ∉ L'.map (·.1) := by
  have hlt := (Array.getElem?_eq_some_iff.1 hb).1
  refine ⟨(h.kept.block b hlt hn).trans hb, fun hm => ?_⟩
  obtain ⟨x, hx, he⟩ := List.mem_map.1 hm
  rcases h.fresh x hx with h1 | h1
  · exact hn (he ▸ h1)
  · omega

/-- **An iterator's contract.** It hands 'els 0', 'els 1', .. to the rounds, so many if N says how many, else without an end. R: blocks that it reads. -/
def IterAt (P : Program) (gf : Nat) (lb : Array Value) (els : Nat → Array Value) (N : Option Nat) (R : List Nat) (W0 : World) : Prop :=
  ∀ (l : Nat) (J : Nat → List (Nat × Obj) → Prop) (Jx : List (Nat × Obj) → Prop) (M : Nat) (W : World) (L0 : List (Nat × Obj)),
    Below W0.heap.size W0 W → (∀ b ∈ R, b ∉ L0.map (·.1)) → (N = none → ∀ k L, J k L → k < M) → J 0 L0 → Holds W L0 →
    (∀ k L W1, J k L → Rd L0 W L W1 → (∀ n, N = some n → k < n) →
      YieldAt Fence.wide 0 P l (els k) W1 fun e W2 => ∃ L2, Rd L W1 L2 W2 ∧ ((e = .returned (.bool true) ∧ J (k + 1) L2) ∨ (e = .returned (.bool false) ∧ Jx L2))) →
    Calls P gf (#[.func (.yield l) #[] #[]] ++ lb) W fun e W' => (∃ v, e = .returned v) ∧ ∃ L', Rd L0 W L' W' ∧ ((∃ n, N = some n ∧ J n L') ∨ Jx L')

/-- One's own blocks of cells, as objects. -/
def objs (L : List (Nat × Array Value × TypeId)) : List (Nat × Obj) := L.map fun x => (x.1, .cells x.2.1 x.2.2)
theorem objs_keys (L : List (Nat × Array Value × TypeId)) : (objs L).map (·.1) = L.map (·.1) := by simp [objs, Function.comp]
theorem Holds.cells {W : World} {L : List (Nat × Array Value × TypeId)} (h : Holds W (objs L)) (i : Nat) {b : Nat} {cs : Array Value} {t : TypeId} (hi : L[i]? = some (b, cs, t)) :
    blk W b = some (.cells cs t (0, 0)) ∧ (∀ o, W.cell? ⟨b, o, none⟩ = cs[o]?) ∧ (∀ o, W.frozen? ⟨b, o, none⟩ = false) ∧ b < W.heap.size ∧ ¬ b = W.heap.size := by
  have h1 : blk W b = some (.cells cs t (0, 0)) := h.1 (b, .cells cs t) (List.mem_map.2 ⟨_, List.mem_of_getElem? hi, rfl⟩)
  have h2 := blk_lt h1
  exact ⟨h1, fun o => cell_of_row W b o cs t _ h1, fun o => frozen_of_row W b o cs t h1, h2, by omega⟩

/-- A round's walk, from where it began: its blocks (L0 then, L now). -/
structure In (L0 : List (Nat × Array Value × TypeId)) (W0 : World) (L : List (Nat × Array Value × TypeId)) (W : World) : Prop where
  rd : Rd (objs L0) W0 (objs L) W
theorem In.start {L : List (Nat × Array Value × TypeId)} {W : World} (h : Holds W (objs L)) : In L W L W := ⟨.refl h⟩
theorem In.at {L0 L : List (Nat × Array Value × TypeId)} {W0 W : World} (h : In L0 W0 L W) (i : Nat) {b : Nat} {cs : Array Value} {t : TypeId} (hi : L[i]? = some (b, cs, t)) :
    blk W b = some (.cells cs t (0, 0)) ∧ (∀ o, W.cell? ⟨b, o, none⟩ = cs[o]?) ∧ (∀ o, W.frozen? ⟨b, o, none⟩ = false) ∧ b < W.heap.size ∧ ¬ b = W.heap.size := h.rd.holds.cells i hi
theorem In.call {L0 L : List (Nat × Array Value × TypeId)} {W0 W W' : World} (h : In L0 W0 L W) (hb : Below W.heap.size W W') : In L0 W0 L W' := ⟨h.rd.trans (.call h.rd.holds hb)⟩
theorem In.alloc {L0 L : List (Nat × Array Value × TypeId)} {W0 W : World} (h : In L0 W0 L W) (cs : Array Value) (t : TypeId) : In L0 W0 ((W.heap.size, cs, t) :: L) (W.alloc (.cells cs t)) := by
  refine ⟨h.rd.trans ⟨⟨fun x hx => ?_, ?_⟩, Kept.of_below ((Below.refl _ _).alloc (Nat.le_refl _) _), fun x hx => ?_⟩⟩
  · rcases List.mem_cons.1 hx with rfl | hx
    · exact World.alloc_heap_new _ _
    · exact (Below.heap_alloc _ _ _ (h.rd.holds.lt hx)).trans (h.rd.holds.1 x hx)
  · have := h.rd.holds.2
    rw [objs_keys] at this ⊢
    simp only [List.map_cons, List.nodup_cons]
    refine ⟨fun hm => ?_, this⟩
    obtain ⟨x, hx, he⟩ := List.mem_map.1 hm
    have := h.rd.holds.lt (x := (x.1, .cells x.2.1 x.2.2)) (List.mem_map.2 ⟨x, hx, rfl⟩)
    simp only at this
    omega
  · rcases List.mem_cons.1 hx with rfl | hx
    · exact .inr (Nat.le_refl _)
    · exact .inl (List.mem_map.2 ⟨x, hx, rfl⟩)
theorem In.setRow {L0 L : List (Nat × Array Value × TypeId)} {W0 W : World} (h : In L0 W0 L W) (i : Nat) {b : Nat} {cs : Array Value} {t : TypeId} (hi : L[i]? = some (b, cs, t)) (cs' : Array Value) : In L0 W0 (L.set i (b, cs', t)) (W.setRow b cs') := by
  have hil : i < L.length := (List.getElem?_eq_some_iff.1 hi).1
  have hm := h.at i hi
  have hk : (L.set i (b, cs', t)).map (·.1) = L.map (·.1) := by
    rw [List.map_set]
    have : b = (L.map (·.1))[i]'(by simpa using hil) := by
      have := (List.getElem?_eq_some_iff.1 hi).2
      simp [this]
    simp only [this, List.set_getElem_self]
  have hnd : (L.map (·.1)).Nodup := by have := h.rd.holds.2; rwa [objs_keys] at this
  refine ⟨h.rd.trans ⟨⟨fun x hx => ?_, ?_⟩, ⟨rfl, rfl, rfl, by simp, fun k hk2 hn => setRow_other W b k cs' (fun e => ?_)⟩, fun x hx => .inl ?_⟩⟩
  · obtain ⟨y, hy, rfl⟩ := List.mem_map.1 hx
    obtain ⟨j, hj, rfl⟩ := List.getElem_of_mem hy
    simp only [List.length_set] at hj
    rw [List.getElem_set]
    split
    · exact blk_setRow_same hm.1 _
    · rename_i hij
      have h2 := h.at j (List.getElem?_eq_getElem hj)
      refine (setRow_other W b _ cs' (fun he => ?_)).trans h2.1
      have e1 : (L.map (·.1))[i]'(by simpa using hil) = b := by
        have := (List.getElem?_eq_some_iff.1 hi).2
        simp [this]
      have e2 : (L.map (·.1))[j]'(by simpa using hj) = b := by simp only [List.getElem_map]; exact he
      exact hij ((List.getElem_inj hnd).1 (e1.trans e2.symm))
  · rw [objs_keys, hk]; exact hnd
  · subst e; exact hn (by rw [objs_keys]; exact List.mem_map.2 ⟨_, List.mem_of_getElem? hi, rfl⟩)
  · have : x.1 ∈ (objs (L.set i (b, cs', t))).map (·.1) := List.mem_map.2 ⟨x, hx, rfl⟩
    rwa [objs_keys, hk, ← objs_keys] at this
theorem In.setCell {L0 L : List (Nat × Array Value × TypeId)} {W0 W : World} (h : In L0 W0 L W) (i : Nat) {b : Nat} {cs : Array Value} {t : TypeId} (hi : L[i]? = some (b, cs, t)) (o : Nat) (v : Value) : In L0 W0 (L.set i (b, cs.setIfInBounds o v, t)) (W.setCell ⟨b, o, none⟩ v) := by
  rw [setCell_eq_setRow W b o cs t (0, 0) v (h.at i hi).1]
  exact h.setRow i hi _
theorem In.tail {L0 L : List (Nat × Array Value × TypeId)} {x : Nat × Array Value × TypeId} {W0 W : World} (h : In L0 W0 (x :: L) W) : In L0 W0 L W := by
  refine ⟨⟨⟨fun y hy => h.rd.holds.1 y (List.mem_cons_of_mem _ hy), ?_⟩, h.rd.kept, fun y hy => h.rd.fresh y (List.mem_cons_of_mem _ hy)⟩⟩
  have := h.rd.holds.2
  rw [objs_keys] at this ⊢
  exact (List.nodup_cons.1 (by simpa using this)).2

/-- How a round's body may be left: it goes on, or by a jump. -/
def roundEnd (I : List (Nat × Array Value × TypeId) → Prop) (Ix : Code → List (Nat × Array Value × TypeId) → Prop) (L0 : List (Nat × Array Value × TypeId)) (W0 : World) : Exit → Act → World → Prop
  | .normal, _, W => ∃ L, In L0 W0 L W ∧ I L
  | .ret, _, W => ∃ L, In L0 W0 L W ∧ Ix .ret L
  | .exit id, _, W => ∃ L, In L0 W0 L W ∧ Ix (.exit id) L
  | .goto t, _, W => ∃ L, In L0 W0 L W ∧ Ix (.goto t) L
  | .panic _, _, _ => False
  | .outgrown, _, _ => False

/-- Blocks beside the loop's: they lie as they lay. -/
theorem Rd.frame {E L L2 : List (Nat × Obj)} {W W3 : World} (h : Rd L W L2 W3) (hE : Holds W (E ++ L)) : Rd (E ++ L) W (E ++ L2) W3 := by
  have hd := hE.2
  rw [List.map_append, List.nodup_append] at hd
  refine ⟨⟨fun x hx => ?_, ?_⟩, ⟨h.kept.os, h.kept.tape, h.kept.output, h.kept.size, fun k hk hn => h.kept.block k hk (fun hm => hn (by rw [List.map_append]; exact List.mem_append_right _ hm))⟩, fun x hx => ?_⟩
  · rcases List.mem_append.1 hx with hx | hx
    · have hxE : x ∈ E ++ L := List.mem_append_left _ hx
      refine (h.kept.block _ (hE.lt hxE) (fun hm => ?_)).trans (hE.1 x hxE)
      exact hd.2.2 _ (List.mem_map.2 ⟨x, hx, rfl⟩) _ hm rfl
    · exact h.holds.1 x hx
  · rw [List.map_append, List.nodup_append]
    refine ⟨hd.1, h.holds.2, fun a ha b hb he => ?_⟩
    subst he
    obtain ⟨x, hx, rfl⟩ := List.mem_map.1 ha
    obtain ⟨y, hy, he⟩ := List.mem_map.1 hb
    rcases h.fresh y hy with h1 | h1
    · exact hd.2.2 _ ha _ (he ▸ h1) rfl
    · have := hE.lt (List.mem_append_left L hx)
      omega
  · rcases List.mem_append.1 hx with hx | hx
    · exact .inl (List.mem_map.2 ⟨x, List.mem_append_left _ hx, rfl⟩)
    · rcases h.fresh x hx with h1 | h1
      · exact .inl (by rw [List.map_append]; exact List.mem_append_right _ h1)
      · exact .inr h1
theorem in_of_full {E0 E : List (Nat × Obj)} {L0 L : List (Nat × Array Value × TypeId)} {w W1 W : World} (hb : Below w.heap.size w W1) (hk : E.map (·.1) = E0.map (·.1)) (hE : ∀ x ∈ E0, w.heap.size ≤ x.1) (h : Rd (E0 ++ objs L0) W1 (E ++ objs L) W) : In L0 w L W := by
  have hnd := h.holds.2
  rw [List.map_append, List.nodup_append] at hnd
  have hs := hb.size
  refine ⟨⟨⟨fun x hx => h.holds.1 x (List.mem_append_right _ hx), hnd.2.1⟩, ⟨h.kept.os.trans hb.os, h.kept.tape.trans hb.tape, h.kept.output.trans hb.output, Nat.le_trans hs h.kept.size, fun k hk2 hn => ?_⟩, fun x hx => ?_⟩⟩
  · refine (h.kept.block k (by omega) (fun hm => ?_)).trans (hb.block k hk2)
    rw [List.map_append, List.mem_append] at hm
    rcases hm with hm | hm
    · obtain ⟨y, hy, rfl⟩ := List.mem_map.1 hm
      have := hE y hy; omega
    · exact hn hm
  · rcases h.fresh x (List.mem_append_right _ hx) with h1 | h1
    · rw [List.map_append, List.mem_append] at h1
      rcases h1 with h1 | h1
      · rw [← hk] at h1
        exact (hnd.2.2 _ h1 _ (List.mem_map.2 ⟨x, hx, rfl⟩) rfl).elim
      · exact .inl h1
    · exact .inr (by omega)
/-- The first block of the list becomes another object. -/
theorem Rd.put {L0 L : List (Nat × Obj)} {W0 W : World} {l : Nat} {o : Obj} (h : Rd L0 W0 ((l, o) :: L) W) (o' : Obj) : Rd L0 W0 ((l, o') :: L) (W.putObj l o') := by
  have hlt := h.holds.lt (List.mem_cons_self ..)
  have hnd := h.holds.2
  simp only [List.map_cons, List.nodup_cons] at hnd
  refine h.trans ⟨⟨fun x hx => ?_, by simpa using hnd⟩, ⟨rfl, rfl, rfl, by simp, fun k hk2 hn => World.putObj_heap_other (fun e => hn (by simp [e]))⟩, fun x hx => .inl ?_⟩
  · rcases List.mem_cons.1 hx with rfl | hx
    · exact World.putObj_heap_same hlt
    · exact (World.putObj_heap_other (fun e => hnd.1 (by rw [← e]; exact List.mem_map.2 ⟨x, hx, rfl⟩))).trans (h.holds.1 x (List.mem_cons_of_mem _ hx))
  · have : x.1 ∈ ((l, o') :: L).map (·.1) := List.mem_map.2 ⟨x, hx, rfl⟩
    simpa using this

theorem St.holds {w0 wr : World} {L : List (Nat × Array Value × TypeId)} (h : St w0 wr L) : Holds wr (objs L) := by
  refine ⟨fun x hx => ?_, by rw [objs_keys]; exact h.2.2⟩
  obtain ⟨y, hy, rfl⟩ := List.mem_map.1 hx
  exact (h.2.1 y hy).2
/-- Behind a loop, or in one of its rounds: the blocks of one's own. -/
theorem St.range {w0 w W : World} {L0 L : List (Nat × Array Value × TypeId)} (h : St w0 w L0) (h2 : In L0 w L W) : St w0 W L := by
  have hs := h.1.size
  refine ⟨h.1.trans (h2.rd.kept.below hs (fun b hb => ?_)), fun x hx => ⟨?_, h2.rd.holds.1 (x.1, .cells x.2.1 x.2.2) (List.mem_map.2 ⟨x, hx, rfl⟩)⟩, by have := h2.rd.holds.2; rwa [objs_keys] at this⟩
  · rw [objs_keys] at hb
    obtain ⟨x, hx, rfl⟩ := List.mem_map.1 hb
    exact (h.2.1 x hx).1
  · rcases h2.rd.fresh (x.1, .cells x.2.1 x.2.2) (List.mem_map.2 ⟨x, hx, rfl⟩) with h3 | h3
    · rw [objs_keys] at h3
      obtain ⟨y, hy, he⟩ := List.mem_map.1 h3
      rw [← he]; exact (h.2.1 y hy).1
    · exact Nat.le_trans hs h3
/-- A round's own walk begins. -/
theorem In.round {L0 L : List (Nat × Array Value × TypeId)} {w W : World} (h : In L0 w L W) : In L W L W := .start h.rd.holds
/-- The block of the rounds' deferred calls is shut: one's own blocks stay. -/
theorem St.shut {w0 wr : World} {L : List (Nat × Array Value × TypeId)} (h : St w0 wr L) {D : Nat} {o : Obj} (hD : wr.heap[D]? = some o) (hc : ∀ c t f, o ≠ .cells c t f) (h0 : w0.heap.size ≤ D) (o' : Obj) : St w0 (wr.putObj D o') L := by
  refine ⟨h.1.trans ⟨rfl, rfl, rfl, by simp, fun k hk => World.putObj_heap_other (by omega)⟩, fun x hx => ⟨(h.2.1 x hx).1, ?_⟩, h.2.2⟩
  refine (World.putObj_heap_other (fun e => ?_)).trans (h.2.1 x hx).2
  have := (h.2.1 x hx).2
  rw [e] at this
  have h2 : wr.heap[D]? = some (.cells x.2.1 x.2.2 (0, 0)) := this
  rw [hD] at h2
  exact hc _ _ _ (Option.some.inj h2)
end Go.Proofs.Ytcjncidahjneaaa

namespace Go.Proofs.Ytcjncidahjneaaa
open Go.RowKit
section
variable {P : Program} {md : Region.Mode} {lp : Nat}
end
end Go.Proofs.Ytcjncidahjneaaa

namespace Go.Proofs.Ytcjncidahjneaaa
open Go.RowKit

/-- A slice of one's own (or nil), beside one's other blocks: its elements' cells. -/
structure Gr (w0 wr : World) (e size : Nat) (v : Value) (n : Nat) (xs : List Value) (L : List (Nat × Array Value × TypeId)) : Prop where
  own : wr.ownsRow w0.heap.size e size v n xs
  st : St w0 wr L
  apart : ∀ g, v.ownBlock = some g → g ∉ L.map (·.1)

theorem ownsRow_below {w w' : World} {base e size n : Nat} {v : Value} {xs : List Value} (h : w.ownsRow base e size v n xs) (hb : Below w.heap.size w w') : w'.ownsRow base e size v n xs := by
  refine ⟨h.1, ?_⟩
  rcases h.2 with h2 | ⟨g, cap, cur, h1, h2, h3, h4⟩
  · exact .inl h2
  · exact .inr ⟨g, cap, cur, h1, h2, (hb.block g (Array.getElem?_eq_some_iff.1 h3).1).trans h3, h4⟩
theorem Gr.nil {w0 wr : World} {e size : Nat} {L : List (Nat × Array Value × TypeId)} (h : St w0 wr L) : Gr w0 wr e size (.slice none 0 0) 0 [] L :=
  ⟨World.ownsRow_nil wr _ e size, h, fun g hg => by simp [Value.ownBlock] at hg⟩
theorem Gr.call {w0 wr w1 : World} {e size n : Nat} {v : Value} {xs : List Value} {L : List (Nat × Array Value × TypeId)} (h : Gr w0 wr e size v n xs L) (hb : Below wr.heap.size wr w1) : Gr w0 w1 e size v n xs L :=
  ⟨ownsRow_below h.own hb, h.st.call hb, h.apart⟩
theorem Gr.lt {w0 wr : World} {e size n g : Nat} {v : Value} {xs : List Value} {L : List (Nat × Array Value × TypeId)} (h : Gr w0 wr e size v n xs L) (hg : v.ownBlock = some g) : g < wr.heap.size := by
  rcases h.own.2 with ⟨rfl, _⟩ | ⟨g', cap, cur, rfl, _, h3, _⟩
  · simp [Value.ownBlock] at hg
  · simp only [Value.ownBlock, Option.some.injEq] at hg
    subst hg
    exact (Array.getElem?_eq_some_iff.1 h3).1
theorem Gr.alloc {w0 wr : World} {e size n : Nat} {v : Value} {xs : List Value} {L : List (Nat × Array Value × TypeId)} (h : Gr w0 wr e size v n xs L) (cs : Array Value) (t : TypeId) : Gr w0 (wr.alloc (.cells cs t)) e size v n xs ((wr.heap.size, cs, t) :: L) := by
  refine ⟨ownsRow_below h.own ((Below.refl _ _).alloc (Nat.le_refl _) _), h.st.alloc cs t, fun g hg hm => ?_⟩
  simp only [List.map_cons, List.mem_cons] at hm
  rcases hm with h1 | h1
  · have := h.lt hg; omega
  · exact h.apart g hg h1
theorem Gr.tail {w0 wr : World} {e size n : Nat} {v : Value} {xs : List Value} {x : Nat × Array Value × TypeId} {L : List (Nat × Array Value × TypeId)} (h : Gr w0 wr e size v n xs (x :: L)) : Gr w0 wr e size v n xs L :=
  ⟨h.own, h.st.tail, fun g hg hm => h.apart g hg (List.mem_cons_of_mem _ hm)⟩
theorem Gr.setRow {w0 wr : World} {e size n : Nat} {v : Value} {xs : List Value} {L : List (Nat × Array Value × TypeId)} (h : Gr w0 wr e size v n xs L) (i : Nat) {b : Nat} {cs : Array Value} {t : TypeId} (hi : L[i]? = some (b, cs, t)) (cs' : Array Value) :
    Gr w0 (wr.setRow b cs') e size v n xs (L.set i (b, cs', t)) := by
  have hil : i < L.length := (List.getElem?_eq_some_iff.1 hi).1
  have hk : (L.set i (b, cs', t)).map (·.1) = L.map (·.1) := by
    rw [List.map_set]
    have : b = (L.map (·.1))[i]'(by simpa using hil) := by
      have := (List.getElem?_eq_some_iff.1 hi).2
      simp [this]
    simp only [this, List.set_getElem_self]
  have hbL : b ∈ L.map (·.1) := List.mem_map.2 ⟨_, List.mem_of_getElem? hi, rfl⟩
  refine ⟨⟨h.own.1, ?_⟩, h.st.setRow i hi cs', fun g hg => by rw [hk]; exact h.apart g hg⟩
  rcases h.own.2 with h2 | ⟨g, cap, cur, rfl, h2, h3, h4⟩
  · exact .inl h2
  · have hne : g ≠ b := fun e => h.apart g rfl (e ▸ hbL)
    exact .inr ⟨g, cap, cur, rfl, h2, (setRow_other wr b g cs' hne).trans h3, h4⟩
theorem Gr.setCell {w0 wr : World} {e size n : Nat} {v : Value} {xs : List Value} {L : List (Nat × Array Value × TypeId)} (h : Gr w0 wr e size v n xs L) (i : Nat) {b : Nat} {cs : Array Value} {t : TypeId} (hi : L[i]? = some (b, cs, t)) (o : Nat) (x : Value) :
    Gr w0 (wr.setCell ⟨b, o, none⟩ x) e size v n xs (L.set i (b, cs.setIfInBounds o x, t)) := by
  rw [setCell_eq_setRow wr b o cs t (0, 0) x (h.st.blk i hi)]
  exact h.setRow i hi _
/-- The slice's own block, among the others. -/
theorem Gr.open {w0 wr : World} {e size n : Nat} {v : Value} {xs : List Value} {L : List (Nat × Array Value × TypeId)} (h : Gr w0 wr e size v n xs L) (hn : v ≠ .slice none 0 0) :
    ∃ g cap cur, v = .slice (some ⟨g, 0, none⟩) n cap ∧ n ≤ cap ∧ cap ≤ maxLen ∧ cur.size = cap * size ∧ cur.toList.take (n * size) = xs ∧ St w0 wr ((g, cur, e) :: L) := by
  rcases h.own.2 with ⟨rfl, _⟩ | ⟨g, cap, cur, rfl, h2, h3, h4, h5, h6, h7⟩
  · exact absurd rfl hn
  · refine ⟨g, cap, cur, rfl, h4, h5, h6, h7, h.st.1, fun x hx => ?_, ?_⟩
    · rcases List.mem_cons.1 hx with rfl | hx
      · exact ⟨h2, h3⟩
      · exact h.st.2.1 x hx
    · simp only [List.map_cons, List.nodup_cons]
      exact ⟨h.apart g rfl, h.st.2.2⟩
/-- The value is a slice whose elements' cells these are. -/
def SrcAt (w : World) (v : Value) (size m : Nat) (news : List Value) : Prop :=
  news.length = m * size ∧ (∀ u ∈ news, u.oneCell' = true) ∧ ((v = .slice none 0 0 ∧ m = 0) ∨ ∃ ad c, v = .slice (some ad) m c ∧ ∀ j u, news[j]? = some u → w.cell? (ad.add j) = some u)

theorem SrcAt.own {w0 wr : World} {L : List (Nat × Array Value × TypeId)} (h : St w0 wr L) (i : Nat) {b : Nat} {cs : Array Value} {t : TypeId} (hi : L[i]? = some (b, cs, t)) {size m c : Nat} {news : List Value} (hl : news.length = m * size) (h1 : ∀ u ∈ news, u.oneCell' = true)
    (hc : ∀ (j : Nat) (u : Value), news[j]? = some u → cs[j]? = some u) : SrcAt wr (.slice (some ⟨b, 0, none⟩) m c) size m news :=
  ⟨hl, h1, .inr ⟨_, c, rfl, fun j u hj => by rw [add_addr, Nat.zero_add, (h.at i hi).2.1 j]; exact hc j u hj⟩⟩
/-! ### Rows of bytes as cells -/
def flat (ks : List (List UInt8)) : List Value := ks.flatMap (·.map bv)
theorem flat_len {n : Nat} : ∀ {ks : List (List UInt8)}, (∀ k ∈ ks, k.length = n) → (flat ks).length = ks.length * n
  | [], _ => by simp [flat]
  | k :: ks, h => by
    have h1 := flat_len (ks := ks) (fun k hk => h k (List.mem_cons_of_mem _ hk))
    have h2 := h k (List.mem_cons_self ..)
    simp only [flat, List.flatMap_cons, List.length_append, List.length_map, List.length_cons] at h1 ⊢
    rw [h1, h2, Nat.add_mul]; omega
theorem flat_get {n : Nat} : ∀ {ks : List (List UInt8)}, (∀ k ∈ ks, k.length = n) → ∀ {i j : Nat} {k : List UInt8} {x : UInt8}, ks[i]? = some k → k[j]? = some x → (flat ks)[i * n + j]? = some (bv x)
  | [], _, i, j, k, x, h1, _ => by simp at h1
  | k0 :: ks, h, i, j, k, x, h1, h2 => by
    have hk0 := h k0 (List.mem_cons_self ..)
    cases i with
    | zero =>
      simp only [List.getElem?_cons_zero, Option.some.injEq] at h1
      subst h1
      have hj : j < k0.length := (List.getElem?_eq_some_iff.1 h2).1
      simp only [flat, List.flatMap_cons, Nat.zero_mul, Nat.zero_add]
      rw [List.getElem?_append_left (by simpa using hj)]
      simp [h2]
    | succ i =>
      have ih := flat_get (ks := ks) (fun k hk => h k (List.mem_cons_of_mem _ hk)) (by simpa using h1) h2
      simp only [flat, List.flatMap_cons] at ih ⊢
      rw [List.getElem?_append_right (by rw [List.length_map, hk0, Nat.add_mul]; omega), List.length_map, hk0, show (i + 1) * n + j - n = i * n + j by rw [Nat.add_mul]; omega]
      exact ih
theorem flat_one (ks : List (List UInt8)) : ∀ u ∈ flat ks, u.oneCell' = true := by
  intro u hu
  simp only [flat, List.mem_flatMap, List.mem_map] at hu
  obtain ⟨k, _, x, _, rfl⟩ := hu
  rfl
/-- Cells that begin with rows: one of them. -/
theorem row_of_flat {n : Nat} (hn : 0 < n) {ks : List (List UInt8)} (hk : ∀ k ∈ ks, k.length = n) {cur : Array Value} {m : Nat} (h : cur.toList.take m = flat ks) {i : Nat} {k : List UInt8} (hi : ks[i]? = some k) :
    i * n + n ≤ csz cur ∧ cut cur (i * n) n = bvs k := by
  have hkl := hk k (List.mem_of_getElem? hi)
  refine cut_of_cells hkl hn fun j x hj => ?_
  have := flat_get hk hi hj
  rw [← h, List.getElem?_take] at this
  split at this
  · simpa using this
  · cases this
theorem RowsAt.src {w : World} {n : Nat} {v : Value} {ks : List (List UInt8)} (h : RowsAt w n v ks) (hn : 0 < n) : SrcAt w v n ks.length (flat ks) := by
  obtain ⟨hk, p, c, rfl, hp, h3⟩ := h
  cases ks with
  | nil =>
    refine ⟨by simp [flat], flat_one _, ?_⟩
    cases p with
    | none => exact .inl ⟨by rw [hp rfl]; rfl, rfl⟩
    | some ad => exact .inr ⟨ad, c, rfl, fun j u hj => by simp [flat] at hj⟩
  | cons k0 ks =>
    refine ⟨flat_len hk, flat_one _, .inr ?_⟩
    obtain ⟨b, o, cs, t, e, rfl, hb, _, _⟩ := h3 0 k0 rfl
    refine ⟨_, c, rfl, fun j u hj => ?_⟩
    have hjl : j < (flat (k0 :: ks)).length := (List.getElem?_eq_some_iff.1 hj).1
    rw [flat_len hk] at hjl
    have hi : j / n < (k0 :: ks).length := Nat.div_lt_of_lt_mul (by rw [Nat.mul_comm]; exact hjl)
    have hmod : j % n < n := Nat.mod_lt _ hn
    have hki := List.getElem?_eq_getElem hi
    have hkl := hk _ (List.getElem_mem hi)
    have hx : ((k0 :: ks)[j / n])[j % n]? = some ((k0 :: ks)[j / n])[j % n] := List.getElem?_eq_getElem (by rw [hkl]; exact hmod)
    have hfl := flat_get hk hki hx
    have ej : j / n * n + j % n = j := by rw [Nat.mul_comm]; exact Nat.div_add_mod j n
    rw [ej, hj] at hfl
    obtain ⟨b2, o2, cs2, t2, e2, ha, hb2, hsz, hcut⟩ := h3 (j / n) _ hki
    simp only [Option.some.injEq, Addr.mk.injEq] at ha
    obtain ⟨rfl, rfl, _⟩ := ha
    have hce : (some (Obj.cells cs t e) : Option Obj) = some (.cells cs2 t2 e2) := hb.symm.trans hb2
    cases hce
    rw [add_addr, cell_of_row w b (o + j) cs t e hb]
    have h1 := bvs_at hx
    rw [← hcut] at h1
    have e1 : cs[o + j / n * n + j % n]? = some (bv ((k0 :: ks)[j / n])[j % n]) := by
      unfold cut at h1
      split at h1
      · rename_i hz; rw [hz.1, Nat.zero_add]; exact h1
      · rw [Array.getElem?_extract] at h1
        split at h1
        · exact h1
        · cases h1
    rw [show o + j / n * n + j % n = o + j by omega] at e1
    rw [e1, hfl]
end Go.Proofs.Ytcjncidahjneaaa

namespace Go.Proofs.Ytcjncidahjneaaa
open Go.ChangeShapes Go.WideShapes Go.ChangeAt Go.RowKit
theorem BytesAt.text {P : Program} {w : World} {src dst e : TypeId} {v : Value} {l : List UInt8} (h : BytesAt w v l) (hs : P.underlying src = some (.slice e)) (he : P.underlying e = some (.int .u8)) (hd : P.underlying dst = some .string) :
    (convert src dst v).run P w = .ok (.string ⟨l.toArray⟩) w := by
  obtain ⟨p, c, rfl, _, h0, h3⟩ := h
  cases p with
  | none =>
    have : l = [] := by
      by_cases hl : l = []
      · exact hl
      · obtain ⟨_, _, _, _, _, hp, _⟩ := h3 hl; cases hp
    subst this
    exact Lib.run_convert_nil_bytes w src dst e c hs he hd
  | some a =>
    refine run_convert_bytes_back w src dst e a c l hs he hd fun j hj => ?_
    obtain ⟨b, o, cs, t, fr, hp, hb, hx⟩ := h3 (by intro h; subst h; simp at hj)
    cases hp
    rw [add_addr, cell_of_row w b (o + j) cs t fr hb, hx j l[j] (List.getElem?_eq_getElem hj)]
    rfl
theorem BytesAt.src {w : World} {v : Value} {l : List UInt8} (h : BytesAt w v l) : SrcAt w v 1 l.length (l.map bv) := by
  obtain ⟨p, c, rfl, _, h0, h3⟩ := h
  refine ⟨by simp, fun u hu => by obtain ⟨x, _, rfl⟩ := List.mem_map.1 hu; rfl, ?_⟩
  cases p with
  | none =>
    have : l = [] := by
      by_cases hl : l = []
      · exact hl
      · obtain ⟨_, _, _, _, _, hp, _⟩ := h3 hl; cases hp
    subst this
    exact .inl ⟨by rw [h0 rfl]; rfl, rfl⟩
  | some a =>
    refine .inr ⟨a, c, rfl, fun j u hj => ?_⟩
    have hjl : j < l.length := by have := (List.getElem?_eq_some_iff.1 hj).1; simpa using this
    obtain ⟨b, o, cs, t, fr, hp, hb, hx⟩ := h3 (by intro h; subst h; simp at hjl)
    cases hp
    rw [add_addr, cell_of_row w b (o + j) cs t fr hb, hx j l[j] (List.getElem?_eq_getElem hjl)]
    simp [List.getElem?_eq_getElem hjl] at hj
    rw [hj]

@[go_sem] theorem run_assert_errno (x : Value) (s : TypeId) (w : World) : (Instr.typeAssert (.iface 40 x) s 40 true).run Try.prog w = .ok (.tuple #[x, .bool true]) w := by
  unfold Instr.typeAssert
  simp [Sem.run_bind, run_underlying Try.underlying40]
/-- The slice literal of two bytes. -/
def buildSliceB (t : TypeId) (n : Nat) (parts : Array (Nat × Value)) : Sem Value := if n = n then Instr.buildSlice t n parts else Instr.buildSlice t n parts
@[go_sem ↓] theorem buildSlice_bytes (n : Nat) (parts : Array (Nat × Value)) : Instr.buildSlice 22 n parts = buildSliceB 22 n parts := by unfold buildSliceB; rw [if_pos rfl]
@[go_sem] theorem run_bytes2 (a b : Int) (w : World) : (buildSliceB 22 2 #[(0, .int .u8 a), (1, .int .u8 b)]).run Try.prog w = .ok (.slice (some ⟨w.heap.size, 0, none⟩) 2 2) (w.alloc (.cells #[.int .u8 a, .int .u8 b] 5)) := by
  have h : (Try.prog.info? 5).map (fun i => (i.zero, i.size)) = some (some (.int .u8 0), 1) := by kernel_rfl
  cases hi : Try.prog.info? 5 with
  | none => rw [hi] at h; cases h
  | some i =>
    rw [hi] at h
    simp only [Option.map_some, Option.some.injEq, Prod.mk.injEq] at h
    unfold buildSliceB
    rw [if_pos rfl]
    refine run_buildSlice w 22 5 2 _ _ i _ Try.underlying22 hi h.1 (by rw [h.2]; decide) (by rw [h.2]; decide) ?_
    rw [h.2]
    kernel_rfl
end Go.Proofs.Ytcjncidahjneaaa
