/-
  How the walk reads and writes whole arrays and structs that lie in memory, in one step each; and arrays of bytes as lists. Lemmas alone, no condition of their own.
-/
import Derived.Test.YtkfbfgjfdjhjdaaLib
namespace Go.Proofs.Ytkfbfgjfdjhjdaa
open Go.RowKit

/-! ### Bytes -/
theorem bvs_getElem? (l : List UInt8) (k : Nat) : (bvs l)[k]? = (l[k]?).map bv := by simp [bvs]
theorem bvs_size (l : List UInt8) : (bvs l).size = l.length := by simp [bvs]
theorem bvs_set (l : List UInt8) (k : Nat) (x : UInt8) : (bvs l).setIfInBounds k (.int .u8 (x.toNat : Int)) = bvs (l.set k x) := by
  simp [bvs, List.map_set]; rfl
theorem bvs_at {l : List UInt8} {k : Nat} {x : UInt8} (h : l[k]? = some x) : (bvs l)[k]? = some (.int .u8 (x.toNat : Int)) := by rw [bvs_getElem?, h]; rfl
theorem get_some {l : List UInt8} {k : Nat} (h : k < l.length) : l[k]? = some (l.getD k 0) := by simp [h]
theorem bvs_get {l : List UInt8} {k : Nat} (h : k < l.length) : (bvs l)[k]? = some (.int .u8 ((l.getD k 0).toNat : Int)) := bvs_at (get_some h)
theorem bvs_inj {l m : List UInt8} (h : bvs l = bvs m) : l = m := by
  have h' : l.map bv = m.map bv := by simpa [bvs] using h
  refine List.map_inj_right (fun a b h => ?_) |>.1 h'
  simp only [bv, Value.int.injEq, Int.natCast_inj, true_and] at h
  exact UInt8.toNat_inj.1 h

/-- So many noughts. -/
def zs (n : Nat) : List UInt8 := List.replicate n 0
theorem zs_len (n : Nat) : (zs n).length = n := by simp [zs]
theorem zs4 : #[Value.int .u8 0, .int .u8 0, .int .u8 0, .int .u8 0] = bvs (zs 4) := rfl
theorem zs16 : #[Value.int .u8 0, .int .u8 0, .int .u8 0, .int .u8 0, .int .u8 0, .int .u8 0, .int .u8 0, .int .u8 0, .int .u8 0, .int .u8 0, .int .u8 0, .int .u8 0, .int .u8 0, .int .u8 0, .int .u8 0, .int .u8 0] = bvs (zs 16) := rfl
@[go_sem] theorem zs_one (n k : Nat) (h : k < n) : (bvs (zs n))[k]? = some (.int .u8 0) := by
  rw [bvs_getElem?, zs, List.getElem?_replicate, if_pos h]; rfl
attribute [irreducible] zs

/-! ### Blocks of a world that is written out -/
/-- A block, under a name that the walk does not open. -/
def blk (w : World) (i : Nat) : Option Obj := w.heap[i]?
@[go_sem] theorem blk_alloc (w : World) (o : Obj) (i : Nat) : blk (w.alloc o) i = if i = w.heap.size then some o else blk w i := by
  show (w.heap.push o)[i]? = _
  rw [Array.getElem?_push]; rfl
@[go_sem] theorem blk_drew (w : World) (i : Nat) : blk w.drew i = blk w i := rfl
@[go_sem] theorem blk_drewN (w : World) (n i : Nat) : blk (w.drewN n) i = blk w i := rfl
@[go_sem] theorem blk_setRow (w : World) (g i : Nat) (cs : Array Value) (h : i ≠ g) : blk (w.setRow g cs) i = blk w i := setRow_other w g i cs h
@[go_sem] theorem blk_setCell (w : World) (a : Addr) (i : Nat) (v : Value) (h : i ≠ a.block) : blk (w.setCell a v) i = blk w i := Below.heap_setCell w a v i h
theorem blk_lt {w : World} {i : Nat} {o : Obj} (h : blk w i = some o) : i < w.heap.size := (Array.getElem?_eq_some_iff.1 h).1
/-- Cells that are each one cell of memory. -/
def ones (vs : Array Value) : Bool := vs.all (·.oneCell')
@[go_sem] theorem ones_bvs (l : List UInt8) : ones (bvs l) = true := by
  simp [ones, bvs, Array.all_eq_true_iff_forall_mem]
  intro a _; rfl
@[go_sem] theorem ones_list (l : List Value) : ones l.toArray = l.all (·.oneCell') := by simp [ones]
attribute [go_sem] Value.oneCell'
@[go_sem] theorem drewN_alloc' (w : World) (n : Nat) (o : Obj) : (w.drewN n).alloc o = (w.alloc o).drewN n := rfl
@[go_sem] theorem drewN_setCell' (w : World) (n : Nat) (a : Addr) (v : Value) : (w.drewN n).setCell a v = (w.setCell a v).drewN n := rfl
@[go_sem] theorem drewN_setRow' (w : World) (n : Nat) (g : Nat) (cs : Array Value) : (w.drewN n).setRow g cs = (w.setRow g cs).drewN n := rfl
@[go_sem] theorem drewN_shape' (w : World) (n r : Nat) : (w.drewN n).shape? r = w.shape? r := rfl
@[go_sem] theorem drew_setRow (w : World) (g : Nat) (cs : Array Value) : w.drew.setRow g cs = (w.setRow g cs).drew := rfl
@[go_sem] theorem setRow_alloc_at (w : World) (c cs : Array Value) (t : TypeId) (fr : Nat × Nat) (n : Nat) (hn : n = w.heap.size) : (w.alloc (.cells c t fr)).setRow n cs = w.alloc (.cells cs t fr) := by
  subst hn
  unfold World.setRow World.alloc
  congr 1
  apply Array.ext
  · simp
  · intro k h1 h2
    simp only [Array.getElem_modify, Array.getElem_push]
    simp only [Array.size_modify, Array.size_push] at h1
    by_cases h : k < w.heap.size
    · simp [h]; omega
    · simp [h]; omega
@[go_sem] theorem setRow_alloc_past (w : World) (o : Obj) (cs : Array Value) (n : Nat) (hn : n < w.heap.size) : (w.alloc o).setRow n cs = (w.setRow n cs).alloc o := by
  unfold World.setRow World.alloc
  congr 1
  apply Array.ext
  · simp
  · intro k h1 h2
    simp only [Array.getElem_modify, Array.getElem_push, Array.size_modify]
    simp only [Array.size_modify, Array.size_push] at h1
    by_cases h : k < w.heap.size
    · simp [h]
    · have : n ≠ k := by omega
      simp [h, this]

theorem below_setRow' {B : Nat} {a w : World} (h : Below B a w) {g : Nat} (hg : B ≤ g) (cs : Array Value) : Below B a (w.setRow g cs) :=
  h.trans ⟨rfl, rfl, rfl, by simp, fun k hk => setRow_other w g k cs (by omega)⟩
theorem below_drewN' {B : Nat} {a w : World} (h : Below B a w) (n : Nat) : Below B a (w.drewN n) := ⟨h.os, h.tape, h.output, h.size, h.block⟩

/-- Behind a call that turns nothing below: a block of one's own is as it was. -/
theorem keep {W w1 : World} (hb : Below W.heap.size W w1) (b : Nat) (cs : Array Value) (t : TypeId) (h : blk W b = some (.cells cs t (0, 0))) :
    blk w1 b = some (.cells cs t (0, 0)) ∧ (∀ o, w1.cell? ⟨b, o, none⟩ = cs[o]?) ∧ (∀ o, w1.frozen? ⟨b, o, none⟩ = false) ∧ b < w1.heap.size ∧ ¬ b = w1.heap.size := by
  have h1 : w1.heap[b]? = some (.cells cs t (0, 0)) := (hb.block b (blk_lt h)).trans h
  have h2 : b < w1.heap.size := blk_lt h1
  exact ⟨h1, fun o => cell_of_row w1 b o cs t _ h1, fun o => frozen_of_row w1 b o cs t h1, h2, by omega⟩

/-- Behind a call: what was below is as it was since one's own call began. -/
theorem chain {B : Nat} {w W w1 : World} (h : Below B w W) (hB : B ≤ W.heap.size) (hb : Below W.heap.size W w1) : Below B w w1 := h.trans (hb.mono hB)

/-- A block that is known whole, as a range. -/
theorem range_of_blk {w : World} {b : Nat} {cs : Array Value} {t : TypeId} {fr : Nat × Nat} (h : blk w b = some (.cells cs t fr)) : w.rangeAt b 0 cs.toList := by
  intro j v hv
  have h' : w.heap[b]? = some (.cells cs t fr) := h
  rw [Nat.zero_add, cell_of_row w b j cs t fr h']
  simpa using hv
theorem range_below {B : Nat} {W w1 : World} {b o : Nat} {cs : List Value} (h : W.rangeAt b o cs) (hb : Below B W w1) (hB : b < B) : w1.rangeAt b o cs := by
  intro j v hv
  exact (hb.cell (p := ⟨b, o + j, none⟩) hB).trans (h j v hv)
/-- What a region may lean on that reads one, two, three whole blocks between its calls. -/
theorem held1 {B : Nat} {w W w1 : World} {b1 o1 : Nat} {c1 : List Value} (h : Below B w W ∧ B ≤ W.heap.size ∧ b1 < W.heap.size ∧ W.rangeAt b1 o1 c1) (hb : Below W.heap.size W w1) :
    Below B w w1 ∧ B ≤ w1.heap.size ∧ b1 < w1.heap.size ∧ w1.rangeAt b1 o1 c1 := by
  obtain ⟨h1, h2, h3, h4⟩ := h
  have := hb.size
  exact ⟨chain h1 h2 hb, by omega, by omega, range_below h4 hb h3⟩
theorem held2 {B : Nat} {w W w1 : World} {b1 o1 b2 o2 : Nat} {c1 c2 : List Value} (h : Below B w W ∧ B ≤ W.heap.size ∧ b1 < W.heap.size ∧ W.rangeAt b1 o1 c1 ∧ b2 < W.heap.size ∧ W.rangeAt b2 o2 c2) (hb : Below W.heap.size W w1) :
    Below B w w1 ∧ B ≤ w1.heap.size ∧ b1 < w1.heap.size ∧ w1.rangeAt b1 o1 c1 ∧ b2 < w1.heap.size ∧ w1.rangeAt b2 o2 c2 := by
  obtain ⟨h1, h2, h3, h4, h5, h6⟩ := h
  have := hb.size
  exact ⟨chain h1 h2 hb, by omega, by omega, range_below h4 hb h3, by omega, range_below h6 hb h5⟩

theorem blk_setRow_same {w : World} {g : Nat} {old : Array Value} {t : TypeId} {fr : Nat × Nat} (h : blk w g = some (.cells old t fr)) (cs : Array Value) : blk (w.setRow g cs) g = some (.cells cs t fr) := setRow_heap w g old cs t fr h

/-- How many cells there are, under a name that the walk does not open. -/
def csz (cs : Array Value) : Nat := cs.size
@[go_sem] theorem csz_list (l : List Value) : csz l.toArray = l.length := by simp [csz]
theorem csz_bvs (l : List UInt8) : csz (bvs l) = l.length := bvs_size l
@[go_sem] theorem csz_zs (n : Nat) : csz (bvs (zs n)) = n := by rw [csz_bvs, zs_len]

/-! ### Whole rows -/
/-- Cells with some written over. -/
def splice (c : Array Value) (k : Nat) (vs : Array Value) : Array Value := (c.toList.take k ++ vs.toList ++ c.toList.drop (k + vs.size)).toArray

theorem run_storeCells_at {P : Program} (g off : Nat) (t : TypeId) : ∀ (vs : List Value) (i : Nat) (cur : Array Value) (w : World), w.heap[g]? = some (.cells cur t (0, 0)) → off + i + vs.length ≤ cur.size → (∀ v ∈ vs, v.oneCell' = true) →
    (storeCells ⟨g, off, none⟩ vs i).run P w = .ok () (w.setRow g (splice cur (off + i) vs.toArray))
  | [], i, cur, w, hg, hl, _ => by
    have hlt : g < w.heap.size := (Array.getElem?_eq_some_iff.1 hg).1
    have hv : w.heap[g] = .cells cur t (0, 0) := (Array.getElem?_eq_some_iff.1 hg).2
    have e : splice cur (off + i) ([] : List Value).toArray = cur := by simp [splice]
    rw [e]
    show Result.ok () w = _
    congr 1
    unfold World.setRow
    cases w with
    | mk heap tape drawn os output =>
      congr 1
      apply Array.ext
      · simp
      · intro k h1 h2
        simp only [Array.getElem_modify]
        split
        · rename_i hk; subst hk; simp at hv; simp [hv]
        · rfl
  | v :: rest, i, cur, w, hg, hl, h1 => by
    have hi : off + i < cur.size := by simp at hl; omega
    have hadd : (⟨g, off, none⟩ : Addr).add i = ⟨g, off + i, none⟩ := by unfold Addr.add; split <;> simp_all
    have hcell : w.cell? ⟨g, off + i, none⟩ = some cur[off + i] := by simp [World.cell?, hg, hi]
    have hfro : w.frozen? ⟨g, off + i, none⟩ = false := by simp [World.frozen?, hg]
    have hst : (store ((⟨g, off, none⟩ : Addr).add i) v).run P w = .ok () (w.setRow g (cur.setIfInBounds (off + i) v)) := by
      rw [hadd, run_store P w _ v _ (h1 v (by simp)), hcell]
      simp [hfro, setCell_eq_setRow w g (off + i) cur t (0, 0) v hg]
    have ih := run_storeCells_at (P := P) g off t rest (i + 1) (cur.setIfInBounds (off + i) v) (w.setRow g (cur.setIfInBounds (off + i) v)) (setRow_heap w g cur _ t _ hg) (by simp at hl ⊢; omega) (fun x hx => h1 x (by simp [hx]))
    simp only [storeCells, Sem.run_bind, hst, Result.andThen_ok, ih, setRow_setRow]
    congr 2
    unfold splice
    congr 1
    apply List.ext_getElem?
    intro k
    simp only [Array.toList_setIfInBounds, List.getElem?_append, List.length_take, List.length_set, Array.length_toList, List.length_append, List.getElem?_drop, List.getElem?_set]
    by_cases hk : k < off + i
    · simp [hk, show k < off + (i + 1) by omega, show min (off + (i + 1)) cur.size = off + (i + 1) by omega, show min (off + i) cur.size = off + i by omega, show off + i ≠ k by omega, show k < off + i + (rest.length + 1) by omega, show k < off + (i + 1) + rest.length by omega]
    · by_cases hk2 : k = off + i
      · subst hk2
        simp [show min (off + (i + 1)) cur.size = off + (i + 1) by omega, show min (off + i) cur.size = off + i by omega, show off + i < off + (i + 1) by omega, show off + i < off + (i + 1) + rest.length by omega]
      · have q1 : ¬ k < off + (i + 1) := by omega
        simp only [show min (off + (i + 1)) cur.size = off + (i + 1) by omega, show min (off + i) cur.size = off + i by omega, List.size_toArray, List.length_cons]
        by_cases hk3 : k < off + (i + 1) + rest.length
        · have e1 : k < off + i + (rest.length + 1) := by omega
          simp [hk, q1, hk3, e1, show k - (off + i) = (k - (off + (i + 1))) + 1 by omega]
        · have e1 : ¬ k < off + i + (rest.length + 1) := by omega
          have e2 : k - (off + (i + 1) + rest.length) = k - (off + i + (rest.length + 1)) := by omega
          simp only [hk3, e1, if_false, e2]
          rw [show off + (i + 1) + rest.length + (k - (off + i + (rest.length + 1))) = k by omega, show off + i + (rest.length + 1) + (k - (off + i + (rest.length + 1))) = k by omega]
          simp [show off + i ≠ k by omega]

/-- The type is an array or a struct of n cells. -/
def isRow (P : Program) (t : TypeId) (n : Nat) : Bool :=
  (match P.underlying t with | some (.struct _) | some (.array _ _) => true | _ => false) && (P.info? t).map (·.size) == some n

def slowLoad (P : Program) (t : TypeId) (a : Addr) (w : World) : Result Value := (loadVar t a).run P w
def slowStore (P : Program) (t : TypeId) (a : Addr) (v : Value) (w : World) : Result Unit := (storeVar t a v).run P w
/-- 'loadVar', 'storeVar' at a type of n cells, under a name that the walk does not open. -/
def loadVarR (t : TypeId) (n : Nat) (a : Addr) : Sem Value := if n = n then loadVar t a else loadVar t a
def storeVarR (t : TypeId) (n : Nat) (a : Addr) (v : Value) : Sem Unit := if n = n then storeVar t a v else storeVar t a v

/-- The cells from 'off' on. -/
def cut (cs : Array Value) (off n : Nat) : Array Value := if off = 0 ∧ csz cs = n then cs else cs.extract off (off + n)
@[go_sem] theorem cut_whole (cs : Array Value) (n : Nat) (h : csz cs = n) : cut cs 0 n = cs := by unfold cut; rw [if_pos ⟨rfl, h⟩]
def paste (cs : Array Value) (off : Nat) (vs : Array Value) : Array Value := if off = 0 ∧ csz cs = csz vs then vs else splice cs off vs

@[go_sem] theorem paste_whole (cs vs : Array Value) (h : csz cs = csz vs) : paste cs 0 vs = vs := by unfold paste; rw [if_pos ⟨rfl, h⟩]

@[go_sem] def loadedR (P : Program) (t : TypeId) (n g off : Nat) (w : World) : Result Value := match blk w g with
  | some (.cells cs _ _) => if off + n ≤ csz cs then .ok (.agg (cut cs off n)) w else slowLoad P t ⟨g, off, none⟩ w
  | _ => slowLoad P t ⟨g, off, none⟩ w
@[go_sem] def storedR (P : Program) (t : TypeId) (n g off : Nat) (vs : Array Value) (w : World) : Result Unit := match blk w g with
  | some (.cells cs _ (0, 0)) => if csz vs = n ∧ off + n ≤ csz cs ∧ ones vs = true then .ok () (w.setRow g (paste cs off vs)) else slowStore P t ⟨g, off, none⟩ (.agg vs) w
  | _ => slowStore P t ⟨g, off, none⟩ (.agg vs) w

theorem run_loadVarR {P : Program} {t : TypeId} {n : Nat} (h : isRow P t n = true) (g off : Nat) (w : World) :
    (loadVarR t n ⟨g, off, none⟩).run P w = loadedR P t n g off w := by
  unfold loadedR
  unfold loadVarR
  rw [if_pos rfl]
  split
  · rename_i cs e fr hg
    split
    · rename_i hsz
      simp only [isRow, Bool.and_eq_true, beq_iff_eq] at h
      simp only [csz] at hsz
      have hl : (loadCells ⟨g, off, none⟩ n).run P w = .ok (cut cs off n) w := by
        have := run_loadCells (P := P) w ⟨g, off, none⟩ n (fun j => cs.getD (off + j) undef) (fun j hj => by
          have hadd : (⟨g, off, none⟩ : Addr).add j = ⟨g, off + j, none⟩ := by unfold Addr.add; split <;> simp_all
          rw [hadd, cell_of_row w g (off + j) cs e fr hg, Array.getElem?_eq_getElem (by omega)]
          simp [Array.getD, show off + j < cs.size by omega])
        rw [this]
        congr 1
        have key : ((List.range n).map fun j => cs.getD (off + j) undef).toArray = cs.extract off (off + n) := by
          apply Array.ext
          · simp; omega
          · intro i h1 h2
            simp at h1
            simp [Array.getD, show off + i < cs.size by omega]
        rw [key]
        unfold cut csz
        split
        · rename_i hc
          obtain ⟨rfl, rfl⟩ := hc
          simp
        · rfl
      cases hq : P.info? t with
      | none => simp [hq] at h
      | some i =>
        have hs : i.size = n := by simpa [hq] using h.2
        have hagg : (isAgg t).run P w = .ok true w := by
          unfold isAgg
          cases hu : P.underlying t with
          | none => simp [hu] at h
          | some d =>
            rw [Sem.run_bind, run_underlying hu w]
            simp only [hu] at h
            cases d <;> simp_all
        simp [loadVar, Sem.run_bind, hagg, sizeOf, typeInfo, hq, hs, hl]
    · rfl
  · rfl

theorem run_storeVarR {P : Program} {t : TypeId} {n : Nat} (h : isRow P t n = true) (g off : Nat) (vs : Array Value) (w : World) :
    (storeVarR t n ⟨g, off, none⟩ (.agg vs)).run P w = storedR P t n g off vs w := by
  unfold storedR
  unfold storeVarR
  rw [if_pos rfl]
  split
  · rename_i cs e hg
    split
    · rename_i hsz
      simp only [csz] at hsz
      obtain ⟨h1, h2, h3⟩ := hsz
      simp only [isRow, Bool.and_eq_true, beq_iff_eq] at h
      have := run_storeCells_at (P := P) g off e vs.toList 0 cs w hg (by simp; omega) (fun v hv => (Array.all_eq_true_iff_forall_mem.1 h3) v (by simpa using hv))
      have e2 : splice cs (off + 0) vs.toList.toArray = paste cs off vs := by
        unfold paste csz
        split
        · rename_i hc
          obtain ⟨rfl, hc⟩ := hc
          simp [splice, ← hc, List.drop_of_length_le]
        · simp
      rw [e2] at this
      cases hq : P.info? t with
      | none => simp [hq] at h
      | some i =>
        have hs : n = i.size := by have := h.2; simp [hq] at this; omega
        simp [storeVar, sizeOf, typeInfo, hq, Value.cells, h1, hs, this]
    · rfl
  · rfl

/-! ### A region that draws its order, whose operations read and call what turns nothing below -/
/-- All worlds in which nothing has turned since W. -/
def Cls (W : World) : World → Prop := fun w' => Below W.heap.size W w'
theorem Cls.step {W w1 w2 : World} (h : Cls W w1) (hb : Below w1.heap.size w1 w2) : Cls W w2 := chain h h.size hb
theorem Cls.keep {W w1 : World} (h : Cls W w1) {b : Nat} {cs : Array Value} {t : TypeId} (hk : blk W b = some (.cells cs t (0, 0))) :
    blk w1 b = some (.cells cs t (0, 0)) ∧ (∀ o, w1.cell? ⟨b, o, none⟩ = cs[o]?) ∧ (∀ o, w1.frozen? ⟨b, o, none⟩ = false) ∧ b < w1.heap.size := by
  obtain ⟨h1, h2, h3, h4, _⟩ := Go.Proofs.Ytkfbfgjfdjhjdaa.keep h b cs t hk
  exact ⟨h1, h2, h3, h4⟩
theorem Cls.call {P : Program} {W w1 : World} (h : Cls W w1) {f : FuncId} {args : Array Value} {v : Value} (hc : Calls P f args w1 fun e w' => e = .returned v ∧ Below w1.heap.size w1 w') :
    Calls P f args w1 fun e w' => e = .returned v ∧ Cls W w' := hc.mono fun _ _ ⟨he, hb⟩ => ⟨he, h.step hb⟩
theorem region_cls {P : Program} {id : Nat} {Q : Exit → Act → World → Prop} {a : Act} {w : World} {l : List Oper} (hm : P.follows .mixedOrders = true) (hB : Region.lexB .any l.toArray = true)
    (h : wpQuiet P l.toArray (Cls w) (fun a' => ∀ w', Cls w w' → Q .normal a' w') l a) : (Code.region id l.toArray true).wp P Q a w :=
  wp_region_quiet (C := Cls w) hm hB ⟨rfl, rfl, rfl, Nat.le_refl _, fun _ _ => rfl⟩ (by simpa using h)

/-! ### Arrays of bytes: one of them, and two of them held side by side -/
/-- The type is an array of n bytes. -/
def isBytes (P : Program) (t : TypeId) (n : Nat) : Bool :=
  match P.underlying t with
  | some (.array m e) => m == n && (match P.underlying e with | some (.int .u8) => true | _ => false) && (P.info? e).map (·.size) == some 1
  | _ => false
theorem isBytes_iff {P : Program} {t n : Nat} (h : isBytes P t n = true) : ∃ e, P.underlying t = some (.array n e) ∧ P.underlying e = some (.int .u8) ∧ (P.info? e).map (·.size) = some 1 := by
  unfold isBytes at h
  cases hu : P.underlying t with
  | none => simp [hu] at h
  | some d =>
    cases d <;> simp [hu] at h
    rename_i m e
    refine ⟨e, ?_, ?_, ?_⟩
    · rw [h.1.1]
    · have := h.1.2
      split at this <;> simp_all
    · simpa using h.2

theorem run_part_one {P : Program} {e : TypeId} {k : IntKind} (he : P.underlying e = some (.int k)) (cs : Array Value) (i : Nat) (v : Value) (hv : cs[i]? = some v) (w : World) : (part e cs i).run P w = .ok v w := by
  have hagg : (isAgg e).run P w = .ok false w := by
    unfold isAgg
    rw [Sem.run_bind, run_underlying he w]
    simp
  simp [part, Sem.run_bind, hagg, hv]

theorem run_sizeOf {P : Program} {e n : Nat} (h : (P.info? e).map (·.size) = some n) (w : World) : (sizeOf e).run P w = .ok n w := by
  cases hq : P.info? e with
  | none => simp [hq] at h
  | some i => simp [hq] at h; simp [sizeOf, typeInfo, hq, h]

theorem run_index_bytes {P : Program} {t n : Nat} (h : isBytes P t n = true) (cs : Array Value) (k : IntKind) (i : Int) (v : Value) (h0 : 0 ≤ i) (h1 : i < n) (hv : cs[i.toNat]? = some v) (w : World) :
    (Instr.index t (.agg cs) (.int k i)).run P w = .ok v w := by
  obtain ⟨e, hu, he, hs⟩ := isBytes_iff h
  simp [Instr.index, asIntOf, run_underlying hu, h0, h1, run_sizeOf hs, run_part_one he cs i.toNat v hv]

def slowIndex (P : Program) (t : TypeId) (x i : Value) (w : World) : Result Value := (Instr.index t x i).run P w
@[go_sem] def indexedB (P : Program) (t n : Nat) (cs : Array Value) (k : IntKind) (i : Int) (w : World) : Result Value :=
  if 0 ≤ i ∧ i < n then match cs[i.toNat]? with | some v => .ok v w | none => slowIndex P t (.agg cs) (.int k i) w else slowIndex P t (.agg cs) (.int k i) w
theorem run_indexB {P : Program} {t n : Nat} (h : isBytes P t n = true) (cs : Array Value) (k : IntKind) (i : Int) (w : World) : (Instr.index t (.agg cs) (.int k i)).run P w = indexedB P t n cs k i w := by
  unfold indexedB
  split
  · rename_i hi
    split
    · rename_i v hv; exact run_index_bytes h cs k i v hi.1 hi.2 hv w
    · rfl
  · rfl

theorem run_equalIn_rows {P : Program} {t n e : Nat} (hu : P.underlying t = some (.array n e)) (hs : (P.info? e).map (·.size) = some 1) (he : P.underlying e = some (.int .u8)) (d : Nat)
    (hin : ∀ (a b : Int) (w : World), (Op.equalIn d e (.int .u8 a) (.int .u8 b)).run P w = .ok (a == b) w) (l m : List UInt8) (hl : l.length = n) (hm : m.length = n) (w : World) :
    (Op.equalIn (d + 1) t (.agg (bvs l)) (.agg (bvs m))).run P w = .ok (l == m) w := by
  simp only [Op.equalIn, Sem.run_bind, run_underlying hu, Result.andThen_ok, run_sizeOf hs, Std.Legacy.Range.forIn_eq_forIn_range', Std.Legacy.Range.size, Nat.sub_zero, Nat.add_sub_cancel, Nat.div_one, Nat.mul_one]
  have key : ∀ (r k : Nat), k + r = n → l.take k = m.take k → (l == m) = (l.drop k == m.drop k) := by
    intro r k _ h
    rw [Bool.eq_iff_iff]
    simp only [beq_iff_eq]
    constructor
    · intro h; rw [h]
    · intro h'; rw [← List.take_append_drop k l, ← List.take_append_drop k m, h, h']
  generalize hL0 : List.range' 0 n = L
  obtain ⟨k, r, hk, ht, hL⟩ : ∃ k r, k + r = n ∧ l.take k = m.take k ∧ L = List.range' k r := ⟨0, n, by omega, rfl, hL0.symm⟩
  clear hL0
  induction r generalizing k L w with
  | zero =>
    have e1 := key 0 k hk ht
    rw [List.drop_of_length_le (by omega), List.drop_of_length_le (by omega)] at e1
    rw [e1, hL]
    simp
  | succ r ih =>
    rw [hL]
    have hkl : k < l.length := by omega
    have hkm : k < m.length := by omega
    have p1 := run_part_one (P := P) he (bvs l) k _ (bvs_get hkl) w
    have p2 := run_part_one (P := P) he (bvs m) k _ (bvs_get hkm) w
    have g1 : l.getD k 0 = l[k] := by simp [hkl]
    have g2 : m.getD k 0 = m[k] := by simp [hkm]
    simp only [List.range'_succ, List.forIn_cons, Sem.run_bind, p1, p2, Result.andThen_ok, hin]
    by_cases hq : l[k] = m[k]
    · have q1 : (!(((l.getD k 0).toNat : Int) == ((m.getD k 0).toNat : Int))) = true ↔ False := by rw [g1, g2, hq]; simp
      simp only [Sem.run_ite, q1, if_false, Sem.run_pure, Result.andThen_ok]
      refine ih w _ (k + 1) (by omega) ?_ rfl
      rw [List.take_succ_eq_append_getElem hkl, List.take_succ_eq_append_getElem hkm, ht, hq]
    · have q1 : (!(((l.getD k 0).toNat : Int) == ((m.getD k 0).toNat : Int))) = true := by
        rw [g1, g2]
        simp only [Bool.not_eq_true', beq_eq_false_iff_ne, ne_eq, Int.natCast_inj]
        exact fun h => hq (UInt8.toNat_inj.1 h)
      simp only [Sem.run_ite, q1, if_true, Sem.run_pure, Result.andThen_ok]
      have : (l == m) = false := by
        rw [beq_eq_false_iff_ne]
        intro h
        subst h
        exact hq rfl
      rw [this]

theorem run_equalIn_bytes {P : Program} {t n : Nat} (h : isBytes P t n = true) (l m : List UInt8) (hl : csz (bvs l) = n) (hm : csz (bvs m) = n) (w : World) :
    (Op.equalIn 10000 t (.agg (bvs l)) (.agg (bvs m))).run P w = .ok (l == m) w := by
  obtain ⟨e, hu, he, hs⟩ := isBytes_iff h
  exact run_equalIn_rows hu hs he 9999 (fun a b w => run_equalIn_int w 9998 e .u8 .u8 a b he) l m (by rw [← csz_bvs, hl]) (by rw [← csz_bvs, hm]) w

/-- What is known of a slice type's elements: how many cells and bytes one has. -/
def elemB (P : Program) (t e size bytes : Nat) : Bool :=
  (match P.underlying t with | some (.slice e') => e' == e | _ => false) && (match P.info? e with
    | some i => i.size == size && i.bytes == bytes && (match i.zero with | some z => z.cells.size == size | none => false)
    | none => false) && decide (0 < size)
theorem elemB_iff {P : Program} {t e size bytes : Nat} (h : elemB P t e size bytes = true) :
    P.underlying t = some (.slice e) ∧ ∃ i z, P.info? e = some i ∧ i.zero = some z ∧ i.size = size ∧ i.bytes = bytes ∧ z.cells.size = size ∧ 0 < size := by
  unfold elemB at h
  simp only [Bool.and_eq_true, decide_eq_true_eq] at h
  obtain ⟨⟨h1, h2⟩, h3⟩ := h
  refine ⟨?_, ?_⟩
  · cases hu : P.underlying t with
    | none => simp [hu] at h1
    | some d =>
      cases d <;> simp [hu] at h1
      subst h1; rfl
  · cases hi : P.info? e with
    | none => simp [hi] at h2
    | some i =>
      cases hz : i.zero with
      | none => simp [hi, hz] at h2
      | some z =>
        simp [hi, hz] at h2
        exact ⟨i, z, rfl, hz, h2.1.1, h2.1.2, h2.2, h3⟩

/-- The end of a function whose one result is an array or a struct that lies in a cell. -/
theorem post_cell {P : Program} {fn : Func} {p ty n : Nat} (hres : fn.results = #[.cell p ty]) (hr : isRow P ty n = true) {R : Ending → World → Prop} {a : Act} {w : World} {e : Exit} (he : e = .ret ∨ e = .normal)
    (g : Nat) (cs : Array Value) (t : TypeId) (fr : Nat × Nat) (hp : a.tmps.getD p undef = .pointer (some ⟨g, 0, none⟩)) (hd : a.defers = []) (hg : blk w g = some (.cells cs t fr)) (hs : cs.size = n) (hR : R (.returned (.agg cs)) w) :
    bodyPost P fn R e a w := by
  have h1 : (results fn a.tmps).run P w = .ok (.agg cs) w := by
    simp only [isRow, Bool.and_eq_true, beq_iff_eq] at hr
    cases hu : P.underlying ty with
    | none => simp [hu] at hr
    | some d =>
      simp only [hu] at hr
      refine results_cell_row hres a.tmps w g t cs fr d hp hg hu ?_ (by rw [hr.2, hs])
      cases d <;> simp_all
  rcases he with rfl | rfl
  · exact bodyPost_ret h1 hd hR
  · exact bodyPost_end h1 hd hR

end Go.Proofs.Ytkfbfgjfdjhjdaa
