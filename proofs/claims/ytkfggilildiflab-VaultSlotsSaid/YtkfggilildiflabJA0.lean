/-
  Laws that the claims of this seat use, of several texts in one: Lib, Agg, Types, Open, OpenS, Tail, Grow, Num, Plain, Grow2, Iter, Field, RefMulP. No condition of their own.
-/
import Derived.Test.YtkfggilildiflabRows
import Derived.ProofKit
import Derived.SizedLaws
import Derived.OpenShut
import Derived.WalkKit
import Derived.WalkSpells
import Derived.WalkLawsBesides
import Derived.BigQuiet
import Derived.Deep.QuietTactic
import Derived.Deep.RegionHeld3
import Derived.Deep.DeepCutAuto
import Derived.Deep.LoopGhost
import Derived.Deep.DeepMust
import Derived.Deep.DeepFit
import Derived.Deep.Slices
import Derived.Maps.AppendAt
import Derived.Laws.AppendOwnNone
import Derived.OwnWalk
import Derived.Great.BuildSlice
import Derived.Laws.IdiomStrings
import Derived.Lib.BufferRead
import Derived.Laws.CopyOwn
import Derived.Laws.Cover3
import Derived.RangeFuncCalls
import Derived.RangeFuncLeaves
import Derived.RangeFuncRecord
import Derived.OwnWalkIn
import Derived.TacticsInMore
import Derived.LoopNIn
import Derived.LoopIn
import Derived.Sort.LoopGhostIn

namespace Go.Proofs.Ytkfggilildiflab
open Go.ChangeShapes Go.WideShapes Go.ChangeAt Go.RowKit

theorem hid {p : Prop} (h : p) : Hid p := h
theorem ret_int {k : IntKind} {a b : Int} (h : a = b) : Ending.returned (.int k a) = .returned (.int k b) := by rw [h]
theorem ret_bool {a b : Bool} (h : a = b) : Ending.returned (.bool a) = .returned (.bool b) := by rw [h]

theorem wf_i64 {a : Int} (h : (Lit.int .i64 a).wf = true) : -9223372036854775808 ≤ a ∧ a ≤ 9223372036854775807 := by
  have h1 : IntKind.i64.min = -9223372036854775808 := rfl
  have h2 : IntKind.i64.max = 9223372036854775807 := rfl
  simp only [Lit.wf, Bool.and_eq_true, decide_eq_true_eq] at h
  omega

/-- A byte as a value. -/
def bv (b : UInt8) : Value := .int .u8 (b.toNat : Int)
/-- Bytes as the cells of an array. -/
def bvs (l : List UInt8) : Array Value := (l.map bv).toArray

theorem below_trodAll {P : Program} {H : Type} {enc : TypeId × Value → H} (hl : laidOutB P = true) {W W' : World} (hb : Below W.heap.size W W') :
    ∀ (ts : List TypeId), (∀ t ∈ ts, P.readableRec t = true ∧ t < P.types.size) → ∀ (vs : List Value) (ds : List (DataW H)) (ps : List MemPlace),
      DataW.TrodAll enc P W 0 (fun _ => true) true ts vs ds ps → (∀ x ∈ ps, x.block < W.heap.size) → DataW.TrodAll enc P W' 0 (fun b => decide (b < W.heap.size)) true ts vs ds ps
  | [], _, vs, ds, ps, h, _ => by
    obtain ⟨rfl, rfl, rfl⟩ := trodAll_nil h
    exact trodAll_mk0
  | t :: ts, ht, vs, ds, ps, h, hlt => by
    obtain ⟨v, vs', d, ds', p, q, rfl, rfl, rfl, h1, h2⟩ := trodAll_cons h
    have k := ht t (by simp)
    exact trodAll_cons_mk (Below.trod hl k.1 k.2 h1 hb (fun x hx => hlt x (by simp [hx]))) (below_trodAll hl hb ts (fun t' h' => ht t' (by simp [h'])) vs' ds' q h2 (fun x hx => hlt x (by simp [hx])))

theorem trodAll_length {P : Program} {H : Type} {enc : TypeId × Value → H} {w : World} {base : Nat} {sp : Nat → Bool} {held : Bool} : ∀ {ts : List TypeId} {vs : List Value} {ds : List (DataW H)} {ps : List MemPlace},
    DataW.TrodAll enc P w base sp held ts vs ds ps → ds.length = ts.length
  | [], vs, ds, ps, h => by obtain ⟨rfl, rfl, rfl⟩ := trodAll_nil h; rfl
  | t :: ts, vs, ds, ps, h => by
    obtain ⟨v, vs', d, ds', p1, q1, rfl, rfl, rfl, h1, h2⟩ := trodAll_cons h
    simp [trodAll_length h2]

/-- From the walk of a law's Go function to its row: it answers true, and below the heap's old size nothing has turned. -/
theorem law_lift {C : Checked} {os : Os} {f : FuncId} {fn : Func} {s : ChangeSpec} {H : Type} {enc : TypeId × Value → H} {tb : TypeId}
    (own : ownKnob C.prog.godebug = none) (started : os.Started) (noInit : C.prog.inits.idxOf? f = none) (hfn : C.prog.funcs[f]? = some fn)
    (witness : ∃ (w : World) (tape : Tape) (i : Input), w.os = os ∧ (w.forCall tape i).Shaped C.prog ∧ i.vars = [] ∧ Input.okWide C.prog (w.forCall tape i) .any w.heap.size f i ∧
      s.pre6 enc C.prog fn [] false (w.forCall tape i).memory i.args ∧ ({} : Assume).holds C.prog (lone (Frame.enter C.prog f i.args .normal) [] (w.forCall tape i)))
    (hvars : s.vars = []) (hres : fn.resultTypes = #[tb]) (htb : C.prog.underlying tb = some .bool)
    (hs : ∀ ds : List (DataW H), ds.length = fn.params.toList.length → (s.fn H (ds ++ [])).results = [.lit (.bool true)] ∧ (s.fn H (ds ++ [])).args = ds ∧ (s.fn H (ds ++ [])).vars = [])
    (hl : laidOutB C.prog = true) (hts : fn.params.toList.all (fun t => C.prog.readableRec t && decide (t < C.prog.types.size)) = true)
    (walk : ∀ (W : World) (base : Nat) (args : Array Value) (ds : List (DataW H)) (p : List MemPlace),
      (∀ (j : Nat) t v, fn.params[j]? = some t → args[j]? = some v → Value.okWide C.prog W .any base t v) →
      DataW.TrodAll enc C.prog W 0 (fun _ => true) true fn.params.toList args.toList ds p → (∀ x ∈ p, x.block < W.heap.size) →
      (DataW.weightsEach C.prog fn.params.toList ds).all (· ≤ reachBytes) = true →
      Calls C.prog f args W fun e W' => e = .returned (.bool true) ∧ Below W.heap.size W W') :
    ReturnsInHanded {} C os f .any (s.pre6 enc C.prog fn [] false) (s.post enc C.prog fn false true false false) := by
  refine returnsInHanded_of_change_sized own started noInit hfn witness ?_
  intro W base args ds gs before hval hW _ hsz _
  have hW' := hW
  have hlt := hW.lt
  obtain ⟨p, q, hA, hV, rfl, hfz, hnd⟩ := hW
  rw [hvars] at hV
  obtain ⟨rfl, rfl⟩ := trodVars_none hV
  have hlt' : ∀ x ∈ p, x.block < W.heap.size := fun x hx => hlt x (by simp [hx])
  have hsz' : (DataW.weightsEach C.prog fn.params.toList ds).all (· ≤ reachBytes) = true := by
    have e : s.plain.varTypes C.prog = [] := by simp [DataSpec.varTypes, ChangeSpec.plain, hvars]
    rw [e, List.append_nil, List.append_nil] at hsz; exact hsz
  refine (walk W base args ds p hval hA hlt' hsz').mono fun e W' ⟨he, hb⟩ => ?_
  have hlen := trodAll_length hA
  obtain ⟨er, ea, ev⟩ := hs ds hlen
  have ht : ∀ t ∈ fn.params.toList, C.prog.readableRec t = true ∧ t < C.prog.types.size := by
    intro t h
    have := List.all_eq_true.1 hts t h
    simpa using this
  refine ⟨_, he, ds, [], p ++ [], [], p, [], hW', ?_, ?_, ?_, hb.frame _, fun h => by cases h⟩
  · rw [er, hres]
    exact trodAll_mk1 (shut_bool htb true)
  · rw [ea]
    exact below_trodAll hl hb _ ht _ _ _ hA hlt'
  · rw [ev, hvars]
    exact rfl

end Go.Proofs.Ytkfggilildiflab

namespace Go.Proofs.Ytkfggilildiflab
open Go.RowKit

/-! ### Bytes -/
theorem bvs_getElem? (l : List UInt8) (k : Nat) : (bvs l)[k]? = (l[k]?).map bv := by simp [bvs]
theorem bvs_size (l : List UInt8) : (bvs l).size = l.length := by simp [bvs]
theorem bvs_set (l : List UInt8) (k : Nat) (x : UInt8) : (bvs l).setIfInBounds k (.int .u8 (x.toNat : Int)) = bvs (l.set k x) := by
  simp [bvs, List.map_set]; rfl
theorem bvs_at {l : List UInt8} {k : Nat} {x : UInt8} (h : l[k]? = some x) : (bvs l)[k]? = some (.int .u8 (x.toNat : Int)) := by rw [bvs_getElem?, h]; rfl
theorem get_some {l : List UInt8} {k : Nat} (h : k < l.length) : l[k]? = some (l.getD k 0) := by simp [h]
theorem bvs_get {l : List UInt8} {k : Nat} (h : k < l.length) : (bvs l)[k]? = some (.int .u8 ((l.getD k 0).toNat : Int)) := bvs_at (get_some h)
theorem bvs_inj {l m : List UInt8} (h : bvs l = bvs m) : l = m := by
  have h' : l.map bv = m.map bv := by simpa [bvs] using h
  refine List.map_inj_right (fun a b h => ?_) |>.1 h'
  simp only [bv, Value.int.injEq, Int.natCast_inj, true_and] at h
  exact UInt8.toNat_inj.1 h

/-- So many noughts. -/
def zs (n : Nat) : List UInt8 := List.replicate n 0
theorem zs_len (n : Nat) : (zs n).length = n := by simp [zs]
theorem zs4 : #[Value.int .u8 0, .int .u8 0, .int .u8 0, .int .u8 0] = bvs (zs 4) := rfl
theorem zs16 : #[Value.int .u8 0, .int .u8 0, .int .u8 0, .int .u8 0, .int .u8 0, .int .u8 0, .int .u8 0, .int .u8 0, .int .u8 0, .int .u8 0, .int .u8 0, .int .u8 0, .int .u8 0, .int .u8 0, .int .u8 0, .int .u8 0] = bvs (zs 16) := rfl
@[go_sem] theorem zs_one (n k : Nat) (h : k < n) : (bvs (zs n))[k]? = some (.int .u8 0) := by
  rw [bvs_getElem?, zs, List.getElem?_replicate, if_pos h]; rfl
attribute [irreducible] zs

/-! ### Blocks of a world that is written out -/
/-- A block, under a name that the walk does not open. -/
def blk (w : World) (i : Nat) : Option Obj := w.heap[i]?
@[go_sem] theorem blk_alloc (w : World) (o : Obj) (i : Nat) : blk (w.alloc o) i = if i = w.heap.size then some o else blk w i := by
  show (w.heap.push o)[i]? = _
  rw [Array.getElem?_push]; rfl
@[go_sem] theorem blk_drew (w : World) (i : Nat) : blk w.drew i = blk w i := rfl
@[go_sem] theorem blk_drewN (w : World) (n i : Nat) : blk (w.drewN n) i = blk w i := rfl
@[go_sem] theorem blk_setRow (w : World) (g i : Nat) (cs : Array Value) (h : i ≠ g) : blk (w.setRow g cs) i = blk w i := setRow_other w g i cs h
@[go_sem] theorem blk_setCell (w : World) (a : Addr) (i : Nat) (v : Value) (h : i ≠ a.block) : blk (w.setCell a v) i = blk w i := Below.heap_setCell w a v i h
theorem blk_lt {w : World} {i : Nat} {o : Obj} (h : blk w i = some o) : i < w.heap.size := (Array.getElem?_eq_some_iff.1 h).1
/-- Cells that are each one cell of memory. -/
def ones (vs : Array Value) : Bool := vs.all (·.oneCell')
@[go_sem] theorem ones_bvs (l : List UInt8) : ones (bvs l) = true := by
  simp [ones, bvs]
  intro a _; rfl
@[go_sem] theorem ones_list (l : List Value) : ones l.toArray = l.all (·.oneCell') := by simp [ones]
attribute [go_sem] Value.oneCell'
@[go_sem] theorem drewN_alloc' (w : World) (n : Nat) (o : Obj) : (w.drewN n).alloc o = (w.alloc o).drewN n := rfl
@[go_sem] theorem drewN_setCell' (w : World) (n : Nat) (a : Addr) (v : Value) : (w.drewN n).setCell a v = (w.setCell a v).drewN n := rfl
@[go_sem] theorem drewN_setRow' (w : World) (n : Nat) (g : Nat) (cs : Array Value) : (w.drewN n).setRow g cs = (w.setRow g cs).drewN n := rfl
@[go_sem] theorem drewN_shape' (w : World) (n r : Nat) : (w.drewN n).shape? r = w.shape? r := rfl
@[go_sem] theorem drew_setRow (w : World) (g : Nat) (cs : Array Value) : w.drew.setRow g cs = (w.setRow g cs).drew := rfl
@[go_sem] theorem setRow_alloc_at (w : World) (c cs : Array Value) (t : TypeId) (fr : Nat × Nat) (n : Nat) (hn : n = w.heap.size) : (w.alloc (.cells c t fr)).setRow n cs = w.alloc (.cells cs t fr) := by
  subst hn
  unfold World.setRow World.alloc
  congr 1
  apply Array.ext
  · simp
  · intro k h1 h2
    simp only [Array.getElem_modify, Array.getElem_push]
    simp only [Array.size_modify, Array.size_push] at h1
    by_cases h : k < w.heap.size
    · simp [h]; omega
    · simp [h]; omega
@[go_sem] theorem setRow_alloc_past (w : World) (o : Obj) (cs : Array Value) (n : Nat) (hn : n < w.heap.size) : (w.alloc o).setRow n cs = (w.setRow n cs).alloc o := by
  unfold World.setRow World.alloc
  congr 1
  apply Array.ext
  · simp
  · intro k h1 h2
    simp only [Array.getElem_modify, Array.getElem_push, Array.size_modify]
    simp only [Array.size_modify, Array.size_push] at h1
    by_cases h : k < w.heap.size
    · simp [h]
    · have : n ≠ k := by omega
      simp [h, this]

theorem below_setRow' {B : Nat} {a w : World} (h : Below B a w) {g : Nat} (hg : B ≤ g) (cs : Array Value) : Below B a (w.setRow g cs) :=
  h.trans ⟨rfl, rfl, rfl, by simp, fun k hk => setRow_other w g k cs (by omega)⟩
theorem below_drewN' {B : Nat} {a w : World} (h : Below B a w) (n : Nat) : Below B a (w.drewN n) := ⟨h.os, h.tape, h.output, h.size, h.block⟩

/-- Behind a call that turns nothing below: a block of one's own is as it was. -/
theorem keep {W w1 : World} (hb : Below W.heap.size W w1) (b : Nat) (cs : Array Value) (t : TypeId) (h : blk W b = some (.cells cs t (0, 0))) :
    blk w1 b = some (.cells cs t (0, 0)) ∧ (∀ o, w1.cell? ⟨b, o, none⟩ = cs[o]?) ∧ (∀ o, w1.frozen? ⟨b, o, none⟩ = false) ∧ b < w1.heap.size ∧ ¬ b = w1.heap.size := by
  have h1 : w1.heap[b]? = some (.cells cs t (0, 0)) := (hb.block b (blk_lt h)).trans h
  have h2 : b < w1.heap.size := blk_lt h1
  exact ⟨h1, fun o => cell_of_row w1 b o cs t _ h1, fun o => frozen_of_row w1 b o cs t h1, h2, by omega⟩

/-- Behind a call: what was below is as it was since one's own call began. -/
theorem chain {B : Nat} {w W w1 : World} (h : Below B w W) (hB : B ≤ W.heap.size) (hb : Below W.heap.size W w1) : Below B w w1 := h.trans (hb.mono hB)

/-- A block that is known whole, as a range. -/
theorem range_of_blk {w : World} {b : Nat} {cs : Array Value} {t : TypeId} {fr : Nat × Nat} (h : blk w b = some (.cells cs t fr)) : w.rangeAt b 0 cs.toList := by
  intro j v hv
  have h' : w.heap[b]? = some (.cells cs t fr) := h
  rw [Nat.zero_add, cell_of_row w b j cs t fr h']
  simpa using hv
theorem range_below {B : Nat} {W w1 : World} {b o : Nat} {cs : List Value} (h : W.rangeAt b o cs) (hb : Below B W w1) (hB : b < B) : w1.rangeAt b o cs := by
  intro j v hv
  exact (hb.cell (p := ⟨b, o + j, none⟩) hB).trans (h j v hv)
/-- What a region may lean on that reads one, two, three whole blocks between its calls. -/
theorem held1 {B : Nat} {w W w1 : World} {b1 o1 : Nat} {c1 : List Value} (h : Below B w W ∧ B ≤ W.heap.size ∧ b1 < W.heap.size ∧ W.rangeAt b1 o1 c1) (hb : Below W.heap.size W w1) :
    Below B w w1 ∧ B ≤ w1.heap.size ∧ b1 < w1.heap.size ∧ w1.rangeAt b1 o1 c1 := by
  obtain ⟨h1, h2, h3, h4⟩ := h
  have := hb.size
  exact ⟨chain h1 h2 hb, by omega, by omega, range_below h4 hb h3⟩
theorem held2 {B : Nat} {w W w1 : World} {b1 o1 b2 o2 : Nat} {c1 c2 : List Value} (h : Below B w W ∧ B ≤ W.heap.size ∧ b1 < W.heap.size ∧ W.rangeAt b1 o1 c1 ∧ b2 < W.heap.size ∧ W.rangeAt b2 o2 c2) (hb : Below W.heap.size W w1) :
    Below B w w1 ∧ B ≤ w1.heap.size ∧ b1 < w1.heap.size ∧ w1.rangeAt b1 o1 c1 ∧ b2 < w1.heap.size ∧ w1.rangeAt b2 o2 c2 := by
  obtain ⟨h1, h2, h3, h4, h5, h6⟩ := h
  have := hb.size
  exact ⟨chain h1 h2 hb, by omega, by omega, range_below h4 hb h3, by omega, range_below h6 hb h5⟩

theorem blk_setRow_same {w : World} {g : Nat} {old : Array Value} {t : TypeId} {fr : Nat × Nat} (h : blk w g = some (.cells old t fr)) (cs : Array Value) : blk (w.setRow g cs) g = some (.cells cs t fr) := setRow_heap w g old cs t fr h

/-- How many cells there are, under a name that the walk does not open. -/
def csz (cs : Array Value) : Nat := cs.size
@[go_sem] theorem csz_list (l : List Value) : csz l.toArray = l.length := by simp [csz]
theorem csz_bvs (l : List UInt8) : csz (bvs l) = l.length := bvs_size l
@[go_sem] theorem csz_zs (n : Nat) : csz (bvs (zs n)) = n := by rw [csz_bvs, zs_len]

/-! ### Whole rows -/
/-- Cells with some written over. -/
def splice (c : Array Value) (k : Nat) (vs : Array Value) : Array Value := (c.toList.take k ++ vs.toList ++ c.toList.drop (k + vs.size)).toArray

theorem run_storeCells_at {P : Program} (g off : Nat) (t : TypeId) : ∀ (vs : List Value) (i : Nat) (cur : Array Value) (w : World), w.heap[g]? = some (.cells cur t (0, 0)) → off + i + vs.length ≤ cur.size → (∀ v ∈ vs, v.oneCell' = true) →
    (storeCells ⟨g, off, none⟩ vs i).run P w = .ok () (w.setRow g (splice cur (off + i) vs.toArray))
  | [], i, cur, w, hg, hl, _ => by
    have hlt : g < w.heap.size := (Array.getElem?_eq_some_iff.1 hg).1
    have hv : w.heap[g] = .cells cur t (0, 0) := (Array.getElem?_eq_some_iff.1 hg).2
    have e : splice cur (off + i) ([] : List Value).toArray = cur := by simp [splice]
    rw [e]
    show Result.ok () w = _
    congr 1
    unfold World.setRow
    cases w with
    | mk heap tape drawn os output =>
      congr 1
      apply Array.ext
      · simp
      · intro k h1 h2
        simp only [Array.getElem_modify]
        split
        · rename_i hk; subst hk; simp at hv; simp [hv]
        · rfl
  | v :: rest, i, cur, w, hg, hl, h1 => by
    have hi : off + i < cur.size := by simp at hl; omega
    have hadd : (⟨g, off, none⟩ : Addr).add i = ⟨g, off + i, none⟩ := by unfold Addr.add; split <;> simp_all
    have hcell : w.cell? ⟨g, off + i, none⟩ = some cur[off + i] := by simp [World.cell?, hg, hi]
    have hfro : w.frozen? ⟨g, off + i, none⟩ = false := by simp [World.frozen?, hg]
    have hst : (store ((⟨g, off, none⟩ : Addr).add i) v).run P w = .ok () (w.setRow g (cur.setIfInBounds (off + i) v)) := by
      rw [hadd, run_store P w _ v _ (h1 v (by simp)), hcell]
      simp [hfro, setCell_eq_setRow w g (off + i) cur t (0, 0) v hg]
    have ih := run_storeCells_at (P := P) g off t rest (i + 1) (cur.setIfInBounds (off + i) v) (w.setRow g (cur.setIfInBounds (off + i) v)) (setRow_heap w g cur _ t _ hg) (by simp at hl ⊢; omega) (fun x hx => h1 x (by simp [hx]))
    simp only [storeCells, Sem.run_bind, hst, Result.andThen_ok, ih, setRow_setRow]
    congr 2
    unfold splice
    congr 1
    apply List.ext_getElem?
    intro k
    simp only [Array.toList_setIfInBounds, List.getElem?_append, List.length_take, List.length_set, Array.length_toList, List.length_append, List.getElem?_drop, List.getElem?_set]
    by_cases hk : k < off + i
    · simp [hk, show k < off + (i + 1) by omega, show min (off + (i + 1)) cur.size = off + (i + 1) by omega, show min (off + i) cur.size = off + i by omega, show off + i ≠ k by omega, show k < off + i + (rest.length + 1) by omega, show k < off + (i + 1) + rest.length by omega]
    · by_cases hk2 : k = off + i
      · subst hk2
        simp [show min (off + (i + 1)) cur.size = off + (i + 1) by omega, show min (off + i) cur.size = off + i by omega, show off + i < off + (i + 1) by omega, show off + i < off + (i + 1) + rest.length by omega]
      · have q1 : ¬ k < off + (i + 1) := by omega
        simp only [show min (off + (i + 1)) cur.size = off + (i + 1) by omega, show min (off + i) cur.size = off + i by omega, List.size_toArray, List.length_cons]
        by_cases hk3 : k < off + (i + 1) + rest.length
        · have e1 : k < off + i + (rest.length + 1) := by omega
          simp [hk, q1, hk3, e1, show k - (off + i) = (k - (off + (i + 1))) + 1 by omega]
        · have e1 : ¬ k < off + i + (rest.length + 1) := by omega
          have e2 : k - (off + (i + 1) + rest.length) = k - (off + i + (rest.length + 1)) := by omega
          simp only [hk3, e1, if_false, e2]
          rw [show off + (i + 1) + rest.length + (k - (off + i + (rest.length + 1))) = k by omega, show off + i + (rest.length + 1) + (k - (off + i + (rest.length + 1))) = k by omega]
          simp [show off + i ≠ k by omega]

/-- The type is an array or a struct of n cells. -/
def isRow (P : Program) (t : TypeId) (n : Nat) : Bool :=
  (match P.underlying t with | some (.struct _) | some (.array _ _) => true | _ => false) && (P.info? t).map (·.size) == some n

def slowLoad (P : Program) (t : TypeId) (a : Addr) (w : World) : Result Value := (loadVar t a).run P w
def slowStore (P : Program) (t : TypeId) (a : Addr) (v : Value) (w : World) : Result Unit := (storeVar t a v).run P w
/-- 'loadVar', 'storeVar' at a type of n cells, under a name that the walk does not open. -/
def loadVarR (t : TypeId) (n : Nat) (a : Addr) : Sem Value := if n = n then loadVar t a else loadVar t a
def storeVarR (t : TypeId) (n : Nat) (a : Addr) (v : Value) : Sem Unit := if n = n then storeVar t a v else storeVar t a v

/-- The cells from 'off' on. -/
def cut (cs : Array Value) (off n : Nat) : Array Value := if off = 0 ∧ csz cs = n then cs else cs.extract off (off + n)
@[go_sem] theorem cut_whole (cs : Array Value) (n : Nat) (h : csz cs = n) : cut cs 0 n = cs := by unfold cut; rw [if_pos ⟨rfl, h⟩]
def paste (cs : Array Value) (off : Nat) (vs : Array Value) : Array Value := if off = 0 ∧ csz cs = csz vs then vs else splice cs off vs

@[go_sem] theorem paste_whole (cs vs : Array Value) (h : csz cs = csz vs) : paste cs 0 vs = vs := by unfold paste; rw [if_pos ⟨rfl, h⟩]

@[go_sem] def loadedR (P : Program) (t : TypeId) (n g off : Nat) (w : World) : Result Value := match blk w g with
  | some (.cells cs _ _) => if off + n ≤ csz cs then .ok (.agg (cut cs off n)) w else slowLoad P t ⟨g, off, none⟩ w
  | _ => slowLoad P t ⟨g, off, none⟩ w
@[go_sem] def storedR (P : Program) (t : TypeId) (n g off : Nat) (vs : Array Value) (w : World) : Result Unit := match blk w g with
  | some (.cells cs _ (0, 0)) => if csz vs = n ∧ off + n ≤ csz cs ∧ ones vs = true then .ok () (w.setRow g (paste cs off vs)) else slowStore P t ⟨g, off, none⟩ (.agg vs) w
  | _ => slowStore P t ⟨g, off, none⟩ (.agg vs) w

theorem run_loadVarR {P : Program} {t : TypeId} {n : Nat} (h : isRow P t n = true) (g off : Nat) (w : World) :
    (loadVarR t n ⟨g, off, none⟩).run P w = loadedR P t n g off w := by
  unfold loadedR
  unfold loadVarR
  rw [if_pos rfl]
  split
  · rename_i cs e fr hg
    split
    · rename_i hsz
      simp only [isRow, Bool.and_eq_true, beq_iff_eq] at h
      simp only [csz] at hsz
      have hl : (loadCells ⟨g, off, none⟩ n).run P w = .ok (cut cs off n) w := by
        have := run_loadCells (P := P) w ⟨g, off, none⟩ n (fun j => cs.getD (off + j) undef) (fun j hj => by
          have hadd : (⟨g, off, none⟩ : Addr).add j = ⟨g, off + j, none⟩ := by unfold Addr.add; split <;> simp_all
          rw [hadd, cell_of_row w g (off + j) cs e fr hg, Array.getElem?_eq_getElem (by omega)]
          simp [Array.getD, show off + j < cs.size by omega])
        rw [this]
        congr 1
        have key : ((List.range n).map fun j => cs.getD (off + j) undef).toArray = cs.extract off (off + n) := by
          apply Array.ext
          · simp; omega
          · intro i h1 h2
            simp at h1
            simp [Array.getD, show off + i < cs.size by omega]
        rw [key]
        unfold cut csz
        split
        · rename_i hc
          obtain ⟨rfl, rfl⟩ := hc
          simp
        · rfl
      cases hq : P.info? t with
      | none => simp [hq] at h
      | some i =>
        have hs : i.size = n := by simpa [hq] using h.2
        have hagg : (isAgg t).run P w = .ok true w := by
          unfold isAgg
          cases hu : P.underlying t with
          | none => simp [hu] at h
          | some d =>
            rw [Sem.run_bind, run_underlying hu w]
            simp only [hu] at h
            cases d <;> simp_all
        simp [loadVar, Sem.run_bind, hagg, sizeOf, typeInfo, hq, hs, hl]
    · rfl
  · rfl

theorem run_storeVarR {P : Program} {t : TypeId} {n : Nat} (h : isRow P t n = true) (g off : Nat) (vs : Array Value) (w : World) :
    (storeVarR t n ⟨g, off, none⟩ (.agg vs)).run P w = storedR P t n g off vs w := by
  unfold storedR
  unfold storeVarR
  rw [if_pos rfl]
  split
  · rename_i cs e hg
    split
    · rename_i hsz
      simp only [csz] at hsz
      obtain ⟨h1, h2, h3⟩ := hsz
      simp only [isRow, Bool.and_eq_true, beq_iff_eq] at h
      have := run_storeCells_at (P := P) g off e vs.toList 0 cs w hg (by simp; omega) (fun v hv => (Array.all_eq_true_iff_forall_mem.1 h3) v (by simpa using hv))
      have e2 : splice cs (off + 0) vs.toList.toArray = paste cs off vs := by
        unfold paste csz
        split
        · rename_i hc
          obtain ⟨rfl, hc⟩ := hc
          simp [splice, ← hc, List.drop_of_length_le]
        · simp
      rw [e2] at this
      cases hq : P.info? t with
      | none => simp [hq] at h
      | some i =>
        have hs : n = i.size := by have := h.2; simp [hq] at this; omega
        simp [storeVar, sizeOf, typeInfo, hq, Value.cells, h1, hs, this]
    · rfl
  · rfl

/-! ### A region that draws its order, whose operations read and call what turns nothing below -/
/-- All worlds in which nothing has turned since W. -/
def Cls (W : World) : World → Prop := fun w' => Below W.heap.size W w'
theorem Cls.step {W w1 w2 : World} (h : Cls W w1) (hb : Below w1.heap.size w1 w2) : Cls W w2 := chain h h.size hb
theorem Cls.keep {W w1 : World} (h : Cls W w1) {b : Nat} {cs : Array Value} {t : TypeId} (hk : blk W b = some (.cells cs t (0, 0))) :
    blk w1 b = some (.cells cs t (0, 0)) ∧ (∀ o, w1.cell? ⟨b, o, none⟩ = cs[o]?) ∧ (∀ o, w1.frozen? ⟨b, o, none⟩ = false) ∧ b < w1.heap.size := by
  obtain ⟨h1, h2, h3, h4, _⟩ := Go.Proofs.Ytkfggilildiflab.keep h b cs t hk
  exact ⟨h1, h2, h3, h4⟩
theorem Cls.call {P : Program} {W w1 : World} (h : Cls W w1) {f : FuncId} {args : Array Value} {v : Value} (hc : Calls P f args w1 fun e w' => e = .returned v ∧ Below w1.heap.size w1 w') :
    Calls P f args w1 fun e w' => e = .returned v ∧ Cls W w' := hc.mono fun _ _ ⟨he, hb⟩ => ⟨he, h.step hb⟩
theorem region_cls {P : Program} {id : Nat} {Q : Exit → Act → World → Prop} {a : Act} {w : World} {l : List Oper} (hm : P.follows .mixedOrders = true) (hB : Region.lexB .any l.toArray = true)
    (h : wpQuiet P l.toArray (Cls w) (fun a' => ∀ w', Cls w w' → Q .normal a' w') l a) : (Code.region id l.toArray true).wp P Q a w :=
  wp_region_quiet (C := Cls w) hm hB ⟨rfl, rfl, rfl, Nat.le_refl _, fun _ _ => rfl⟩ (by simpa using h)

/-! ### Arrays of bytes: one of them, and two of them held side by side -/
/-- The type is an array of n bytes. -/
def isBytes (P : Program) (t : TypeId) (n : Nat) : Bool :=
  match P.underlying t with
  | some (.array m e) => m == n && (match P.underlying e with | some (.int .u8) => true | _ => false) && (P.info? e).map (·.size) == some 1
  | _ => false
theorem isBytes_iff {P : Program} {t n : Nat} (h : isBytes P t n = true) : ∃ e, P.underlying t = some (.array n e) ∧ P.underlying e = some (.int .u8) ∧ (P.info? e).map (·.size) = some 1 := by
  unfold isBytes at h
  cases hu : P.underlying t with
  | none => simp [hu] at h
  | some d =>
    cases d <;> simp [hu] at h
    rename_i m e
    refine ⟨e, ?_, ?_, ?_⟩
    · rw [h.1.1]
    · have := h.1.2
      split at this <;> simp_all
    · simpa using h.2

theorem run_part_one {P : Program} {e : TypeId} {k : IntKind} (he : P.underlying e = some (.int k)) (cs : Array Value) (i : Nat) (v : Value) (hv : cs[i]? = some v) (w : World) : (part e cs i).run P w = .ok v w := by
  have hagg : (isAgg e).run P w = .ok false w := by
    unfold isAgg
    rw [Sem.run_bind, run_underlying he w]
    simp
  simp [part, Sem.run_bind, hagg, hv]

theorem run_sizeOf {P : Program} {e n : Nat} (h : (P.info? e).map (·.size) = some n) (w : World) : (sizeOf e).run P w = .ok n w := by
  cases hq : P.info? e with
  | none => simp [hq] at h
  | some i => simp [hq] at h; simp [sizeOf, typeInfo, hq, h]

theorem run_index_bytes {P : Program} {t n : Nat} (h : isBytes P t n = true) (cs : Array Value) (k : IntKind) (i : Int) (v : Value) (h0 : 0 ≤ i) (h1 : i < n) (hv : cs[i.toNat]? = some v) (w : World) :
    (Instr.index t (.agg cs) (.int k i)).run P w = .ok v w := by
  obtain ⟨e, hu, he, hs⟩ := isBytes_iff h
  simp [Instr.index, asIntOf, run_underlying hu, h0, h1, run_sizeOf hs, run_part_one he cs i.toNat v hv]

def slowIndex (P : Program) (t : TypeId) (x i : Value) (w : World) : Result Value := (Instr.index t x i).run P w
@[go_sem] def indexedB (P : Program) (t n : Nat) (cs : Array Value) (k : IntKind) (i : Int) (w : World) : Result Value :=
  if 0 ≤ i ∧ i < n then match cs[i.toNat]? with | some v => .ok v w | none => slowIndex P t (.agg cs) (.int k i) w else slowIndex P t (.agg cs) (.int k i) w
theorem run_indexB {P : Program} {t n : Nat} (h : isBytes P t n = true) (cs : Array Value) (k : IntKind) (i : Int) (w : World) : (Instr.index t (.agg cs) (.int k i)).run P w = indexedB P t n cs k i w := by
  unfold indexedB
  split
  · rename_i hi
    split
    · rename_i v hv; exact run_index_bytes h cs k i v hi.1 hi.2 hv w
    · rfl
  · rfl

theorem run_equalIn_rows {P : Program} {t n e : Nat} (hu : P.underlying t = some (.array n e)) (hs : (P.info? e).map (·.size) = some 1) (he : P.underlying e = some (.int .u8)) (d : Nat)
    (hin : ∀ (a b : Int) (w : World), (Op.equalIn d e (.int .u8 a) (.int .u8 b)).run P w = .ok (a == b) w) (l m : List UInt8) (hl : l.length = n) (hm : m.length = n) (w : World) :
    (Op.equalIn (d + 1) t (.agg (bvs l)) (.agg (bvs m))).run P w = .ok (l == m) w := by
  simp only [Op.equalIn, Sem.run_bind, run_underlying hu, Result.andThen_ok, run_sizeOf hs, Std.Legacy.Range.forIn_eq_forIn_range', Std.Legacy.Range.size, Nat.sub_zero, Nat.add_sub_cancel, Nat.div_one, Nat.mul_one]
  have key : ∀ (r k : Nat), k + r = n → l.take k = m.take k → (l == m) = (l.drop k == m.drop k) := by
    intro r k _ h
    rw [Bool.eq_iff_iff]
    simp only [beq_iff_eq]
    constructor
    · intro h; rw [h]
    · intro h'; rw [← List.take_append_drop k l, ← List.take_append_drop k m, h, h']
  generalize hL0 : List.range' 0 n = L
  obtain ⟨k, r, hk, ht, hL⟩ : ∃ k r, k + r = n ∧ l.take k = m.take k ∧ L = List.range' k r := ⟨0, n, by omega, rfl, hL0.symm⟩
  clear hL0
  induction r generalizing k L w with
  | zero =>
    have e1 := key 0 k hk ht
    rw [List.drop_of_length_le (by omega), List.drop_of_length_le (by omega)] at e1
    rw [e1, hL]
    simp
  | succ r ih =>
    rw [hL]
    have hkl : k < l.length := by omega
    have hkm : k < m.length := by omega
    have p1 := run_part_one (P := P) he (bvs l) k _ (bvs_get hkl) w
    have p2 := run_part_one (P := P) he (bvs m) k _ (bvs_get hkm) w
    have g1 : l.getD k 0 = l[k] := by simp [hkl]
    have g2 : m.getD k 0 = m[k] := by simp [hkm]
    simp only [List.range'_succ, List.forIn_cons, Sem.run_bind, p1, p2, Result.andThen_ok, hin]
    by_cases hq : l[k] = m[k]
    · have q1 : (!(((l.getD k 0).toNat : Int) == ((m.getD k 0).toNat : Int))) = true ↔ False := by rw [g1, g2, hq]; simp
      simp only [q1, if_false, Sem.run_pure, Result.andThen_ok]
      refine ih w _ (k + 1) (by omega) ?_ rfl
      rw [List.take_succ_eq_append_getElem hkl, List.take_succ_eq_append_getElem hkm, ht, hq]
    · have q1 : (!(((l.getD k 0).toNat : Int) == ((m.getD k 0).toNat : Int))) = true := by
        rw [g1, g2]
        simp only [Bool.not_eq_true', beq_eq_false_iff_ne, ne_eq, Int.natCast_inj]
        exact fun h => hq (UInt8.toNat_inj.1 h)
      simp only [q1, if_true, Sem.run_pure, Result.andThen_ok]
      have : (l == m) = false := by
        rw [beq_eq_false_iff_ne]
        intro h
        subst h
        exact hq rfl
      rw [this]

theorem run_equalIn_bytes {P : Program} {t n : Nat} (h : isBytes P t n = true) (l m : List UInt8) (hl : csz (bvs l) = n) (hm : csz (bvs m) = n) (w : World) :
    (Op.equalIn 10000 t (.agg (bvs l)) (.agg (bvs m))).run P w = .ok (l == m) w := by
  obtain ⟨e, hu, he, hs⟩ := isBytes_iff h
  exact run_equalIn_rows hu hs he 9999 (fun a b w => run_equalIn_int w 9998 e .u8 .u8 a b he) l m (by rw [← csz_bvs, hl]) (by rw [← csz_bvs, hm]) w

/-- What is known of a slice type's elements: how many cells and bytes one has. -/
def elemB (P : Program) (t e size bytes : Nat) : Bool :=
  (match P.underlying t with | some (.slice e') => e' == e | _ => false) && (match P.info? e with
    | some i => i.size == size && i.bytes == bytes && (match i.zero with | some z => z.cells.size == size | none => false)
    | none => false) && decide (0 < size)
theorem elemB_iff {P : Program} {t e size bytes : Nat} (h : elemB P t e size bytes = true) :
    P.underlying t = some (.slice e) ∧ ∃ i z, P.info? e = some i ∧ i.zero = some z ∧ i.size = size ∧ i.bytes = bytes ∧ z.cells.size = size ∧ 0 < size := by
  unfold elemB at h
  simp only [Bool.and_eq_true, decide_eq_true_eq] at h
  obtain ⟨⟨h1, h2⟩, h3⟩ := h
  refine ⟨?_, ?_⟩
  · cases hu : P.underlying t with
    | none => simp [hu] at h1
    | some d =>
      cases d <;> simp [hu] at h1
      subst h1; rfl
  · cases hi : P.info? e with
    | none => simp [hi] at h2
    | some i =>
      cases hz : i.zero with
      | none => simp [hi, hz] at h2
      | some z =>
        simp [hi, hz] at h2
        exact ⟨i, z, rfl, hz, h2.1.1, h2.1.2, h2.2, h3⟩

/-- The end of a function whose one result is an array or a struct that lies in a cell. -/
theorem post_cell {P : Program} {fn : Func} {p ty n : Nat} (hres : fn.results = #[.cell p ty]) (hr : isRow P ty n = true) {R : Ending → World → Prop} {a : Act} {w : World} {e : Exit} (he : e = .ret ∨ e = .normal)
    (g : Nat) (cs : Array Value) (t : TypeId) (fr : Nat × Nat) (hp : a.tmps.getD p undef = .pointer (some ⟨g, 0, none⟩)) (hd : a.defers = []) (hg : blk w g = some (.cells cs t fr)) (hs : cs.size = n) (hR : R (.returned (.agg cs)) w) :
    bodyPost P fn R e a w := by
  have h1 : (results fn a.tmps).run P w = .ok (.agg cs) w := by
    simp only [isRow, Bool.and_eq_true, beq_iff_eq] at hr
    cases hu : P.underlying ty with
    | none => simp [hu] at hr
    | some d =>
      simp only [hu] at hr
      refine results_cell_row hres a.tmps w g t cs fr d hp hg hu ?_ (by rw [hr.2, hs])
      cases d <;> simp_all
  rcases he with rfl | rfl
  · exact bodyPost_ret h1 hd hR
  · exact bodyPost_end h1 hd hR

end Go.Proofs.Ytkfggilildiflab

namespace Go.Proofs.Ytkfggilildiflab
open Go.RowKit

@[go_sem ↓] theorem loadVar_7 (a : Addr) : loadVar 7 a = loadVarR 7 4 a := by unfold loadVarR; rw [if_pos rfl]
@[go_sem ↓] theorem storeVar_7 (a : Addr) (v : Value) : storeVar 7 a v = storeVarR 7 4 a v := by unfold storeVarR; rw [if_pos rfl]
theorem isRow_7 : isRow Try.prog 7 4 = true := by kernel_rfl
@[go_sem] theorem run_loadVar_7 (g off : Nat) (w : World) : (loadVarR 7 4 ⟨g, off, none⟩).run Try.prog w = loadedR Try.prog 7 4 g off w := run_loadVarR isRow_7 g off w
@[go_sem] theorem run_storeVar_7 (g off : Nat) (vs : Array Value) (w : World) : (storeVarR 7 4 ⟨g, off, none⟩ (.agg vs)).run Try.prog w = storedR Try.prog 7 4 g off vs w := run_storeVarR isRow_7 g off vs w

@[go_sem ↓] theorem loadVar_8 (a : Addr) : loadVar 8 a = loadVarR 8 4 a := by unfold loadVarR; rw [if_pos rfl]
@[go_sem ↓] theorem storeVar_8 (a : Addr) (v : Value) : storeVar 8 a v = storeVarR 8 4 a v := by unfold storeVarR; rw [if_pos rfl]
theorem isRow_8 : isRow Try.prog 8 4 = true := by kernel_rfl
@[go_sem] theorem run_loadVar_8 (g off : Nat) (w : World) : (loadVarR 8 4 ⟨g, off, none⟩).run Try.prog w = loadedR Try.prog 8 4 g off w := run_loadVarR isRow_8 g off w
@[go_sem] theorem run_storeVar_8 (g off : Nat) (vs : Array Value) (w : World) : (storeVarR 8 4 ⟨g, off, none⟩ (.agg vs)).run Try.prog w = storedR Try.prog 8 4 g off vs w := run_storeVarR isRow_8 g off vs w

@[go_sem ↓] theorem loadVar_13 (a : Addr) : loadVar 13 a = loadVarR 13 2 a := by unfold loadVarR; rw [if_pos rfl]
@[go_sem ↓] theorem storeVar_13 (a : Addr) (v : Value) : storeVar 13 a v = storeVarR 13 2 a v := by unfold storeVarR; rw [if_pos rfl]
theorem isRow_13 : isRow Try.prog 13 2 = true := by kernel_rfl
@[go_sem] theorem run_loadVar_13 (g off : Nat) (w : World) : (loadVarR 13 2 ⟨g, off, none⟩).run Try.prog w = loadedR Try.prog 13 2 g off w := run_loadVarR isRow_13 g off w
@[go_sem] theorem run_storeVar_13 (g off : Nat) (vs : Array Value) (w : World) : (storeVarR 13 2 ⟨g, off, none⟩ (.agg vs)).run Try.prog w = storedR Try.prog 13 2 g off vs w := run_storeVarR isRow_13 g off vs w

@[go_sem ↓] theorem loadVar_14 (a : Addr) : loadVar 14 a = loadVarR 14 2 a := by unfold loadVarR; rw [if_pos rfl]
@[go_sem ↓] theorem storeVar_14 (a : Addr) (v : Value) : storeVar 14 a v = storeVarR 14 2 a v := by unfold storeVarR; rw [if_pos rfl]
theorem isRow_14 : isRow Try.prog 14 2 = true := by kernel_rfl
@[go_sem] theorem run_loadVar_14 (g off : Nat) (w : World) : (loadVarR 14 2 ⟨g, off, none⟩).run Try.prog w = loadedR Try.prog 14 2 g off w := run_loadVarR isRow_14 g off w
@[go_sem] theorem run_storeVar_14 (g off : Nat) (vs : Array Value) (w : World) : (storeVarR 14 2 ⟨g, off, none⟩ (.agg vs)).run Try.prog w = storedR Try.prog 14 2 g off vs w := run_storeVarR isRow_14 g off vs w

@[go_sem ↓] theorem loadVar_18 (a : Addr) : loadVar 18 a = loadVarR 18 1 a := by unfold loadVarR; rw [if_pos rfl]
@[go_sem ↓] theorem storeVar_18 (a : Addr) (v : Value) : storeVar 18 a v = storeVarR 18 1 a v := by unfold storeVarR; rw [if_pos rfl]
theorem isRow_18 : isRow Try.prog 18 1 = true := by kernel_rfl
@[go_sem] theorem run_loadVar_18 (g off : Nat) (w : World) : (loadVarR 18 1 ⟨g, off, none⟩).run Try.prog w = loadedR Try.prog 18 1 g off w := run_loadVarR isRow_18 g off w
@[go_sem] theorem run_storeVar_18 (g off : Nat) (vs : Array Value) (w : World) : (storeVarR 18 1 ⟨g, off, none⟩ (.agg vs)).run Try.prog w = storedR Try.prog 18 1 g off vs w := run_storeVarR isRow_18 g off vs w

@[go_sem ↓] theorem loadVar_19 (a : Addr) : loadVar 19 a = loadVarR 19 1 a := by unfold loadVarR; rw [if_pos rfl]
@[go_sem ↓] theorem storeVar_19 (a : Addr) (v : Value) : storeVar 19 a v = storeVarR 19 1 a v := by unfold storeVarR; rw [if_pos rfl]
theorem isRow_19 : isRow Try.prog 19 1 = true := by kernel_rfl
@[go_sem] theorem run_loadVar_19 (g off : Nat) (w : World) : (loadVarR 19 1 ⟨g, off, none⟩).run Try.prog w = loadedR Try.prog 19 1 g off w := run_loadVarR isRow_19 g off w
@[go_sem] theorem run_storeVar_19 (g off : Nat) (vs : Array Value) (w : World) : (storeVarR 19 1 ⟨g, off, none⟩ (.agg vs)).run Try.prog w = storedR Try.prog 19 1 g off vs w := run_storeVarR isRow_19 g off vs w

@[go_sem ↓] theorem loadVar_30 (a : Addr) : loadVar 30 a = loadVarR 30 128 a := by unfold loadVarR; rw [if_pos rfl]
@[go_sem ↓] theorem storeVar_30 (a : Addr) (v : Value) : storeVar 30 a v = storeVarR 30 128 a v := by unfold storeVarR; rw [if_pos rfl]
theorem isRow_30 : isRow Try.prog 30 128 = true := by kernel_rfl
@[go_sem] theorem run_loadVar_30 (g off : Nat) (w : World) : (loadVarR 30 128 ⟨g, off, none⟩).run Try.prog w = loadedR Try.prog 30 128 g off w := run_loadVarR isRow_30 g off w
@[go_sem] theorem run_storeVar_30 (g off : Nat) (vs : Array Value) (w : World) : (storeVarR 30 128 ⟨g, off, none⟩ (.agg vs)).run Try.prog w = storedR Try.prog 30 128 g off vs w := run_storeVarR isRow_30 g off vs w
theorem isBytes_30 : isBytes Try.prog 30 128 = true := by kernel_rfl
@[go_sem] theorem run_index_30 (cs : Array Value) (k : IntKind) (i : Int) (w : World) : (Instr.index 30 (.agg cs) (.int k i)).run Try.prog w = indexedB Try.prog 30 128 cs k i w := run_indexB isBytes_30 cs k i w
@[go_sem] theorem run_equalIn_30 (l m : List UInt8) (hl : csz (bvs l) = 128) (hm : csz (bvs m) = 128) (w : World) : (Op.equalIn 10000 30 (.agg (bvs l)) (.agg (bvs m))).run Try.prog w = .ok (l == m) w := run_equalIn_bytes isBytes_30 l m hl hm w

@[go_sem ↓] theorem loadVar_31 (a : Addr) : loadVar 31 a = loadVarR 31 128 a := by unfold loadVarR; rw [if_pos rfl]
@[go_sem ↓] theorem storeVar_31 (a : Addr) (v : Value) : storeVar 31 a v = storeVarR 31 128 a v := by unfold storeVarR; rw [if_pos rfl]
theorem isRow_31 : isRow Try.prog 31 128 = true := by kernel_rfl
@[go_sem] theorem run_loadVar_31 (g off : Nat) (w : World) : (loadVarR 31 128 ⟨g, off, none⟩).run Try.prog w = loadedR Try.prog 31 128 g off w := run_loadVarR isRow_31 g off w
@[go_sem] theorem run_storeVar_31 (g off : Nat) (vs : Array Value) (w : World) : (storeVarR 31 128 ⟨g, off, none⟩ (.agg vs)).run Try.prog w = storedR Try.prog 31 128 g off vs w := run_storeVarR isRow_31 g off vs w
theorem isBytes_31 : isBytes Try.prog 31 128 = true := by kernel_rfl
@[go_sem] theorem run_index_31 (cs : Array Value) (k : IntKind) (i : Int) (w : World) : (Instr.index 31 (.agg cs) (.int k i)).run Try.prog w = indexedB Try.prog 31 128 cs k i w := run_indexB isBytes_31 cs k i w
@[go_sem] theorem run_equalIn_31 (l m : List UInt8) (hl : csz (bvs l) = 128) (hm : csz (bvs m) = 128) (w : World) : (Op.equalIn 10000 31 (.agg (bvs l)) (.agg (bvs m))).run Try.prog w = .ok (l == m) w := run_equalIn_bytes isBytes_31 l m hl hm w

@[go_sem ↓] theorem loadVar_52 (a : Addr) : loadVar 52 a = loadVarR 52 4 a := by unfold loadVarR; rw [if_pos rfl]
@[go_sem ↓] theorem storeVar_52 (a : Addr) (v : Value) : storeVar 52 a v = storeVarR 52 4 a v := by unfold storeVarR; rw [if_pos rfl]
theorem isRow_52 : isRow Try.prog 52 4 = true := by kernel_rfl
@[go_sem] theorem run_loadVar_52 (g off : Nat) (w : World) : (loadVarR 52 4 ⟨g, off, none⟩).run Try.prog w = loadedR Try.prog 52 4 g off w := run_loadVarR isRow_52 g off w
@[go_sem] theorem run_storeVar_52 (g off : Nat) (vs : Array Value) (w : World) : (storeVarR 52 4 ⟨g, off, none⟩ (.agg vs)).run Try.prog w = storedR Try.prog 52 4 g off vs w := run_storeVarR isRow_52 g off vs w

@[go_sem ↓] theorem loadVar_53 (a : Addr) : loadVar 53 a = loadVarR 53 4 a := by unfold loadVarR; rw [if_pos rfl]
@[go_sem ↓] theorem storeVar_53 (a : Addr) (v : Value) : storeVar 53 a v = storeVarR 53 4 a v := by unfold storeVarR; rw [if_pos rfl]
theorem isRow_53 : isRow Try.prog 53 4 = true := by kernel_rfl
@[go_sem] theorem run_loadVar_53 (g off : Nat) (w : World) : (loadVarR 53 4 ⟨g, off, none⟩).run Try.prog w = loadedR Try.prog 53 4 g off w := run_loadVarR isRow_53 g off w
@[go_sem] theorem run_storeVar_53 (g off : Nat) (vs : Array Value) (w : World) : (storeVarR 53 4 ⟨g, off, none⟩ (.agg vs)).run Try.prog w = storedR Try.prog 53 4 g off vs w := run_storeVarR isRow_53 g off vs w

@[go_sem ↓] theorem loadVar_56 (a : Addr) : loadVar 56 a = loadVarR 56 129 a := by unfold loadVarR; rw [if_pos rfl]
@[go_sem ↓] theorem storeVar_56 (a : Addr) (v : Value) : storeVar 56 a v = storeVarR 56 129 a v := by unfold storeVarR; rw [if_pos rfl]
theorem isRow_56 : isRow Try.prog 56 129 = true := by kernel_rfl
@[go_sem] theorem run_loadVar_56 (g off : Nat) (w : World) : (loadVarR 56 129 ⟨g, off, none⟩).run Try.prog w = loadedR Try.prog 56 129 g off w := run_loadVarR isRow_56 g off w
@[go_sem] theorem run_storeVar_56 (g off : Nat) (vs : Array Value) (w : World) : (storeVarR 56 129 ⟨g, off, none⟩ (.agg vs)).run Try.prog w = storedR Try.prog 56 129 g off vs w := run_storeVarR isRow_56 g off vs w

@[go_sem ↓] theorem loadVar_57 (a : Addr) : loadVar 57 a = loadVarR 57 129 a := by unfold loadVarR; rw [if_pos rfl]
@[go_sem ↓] theorem storeVar_57 (a : Addr) (v : Value) : storeVar 57 a v = storeVarR 57 129 a v := by unfold storeVarR; rw [if_pos rfl]
theorem isRow_57 : isRow Try.prog 57 129 = true := by kernel_rfl
@[go_sem] theorem run_loadVar_57 (g off : Nat) (w : World) : (loadVarR 57 129 ⟨g, off, none⟩).run Try.prog w = loadedR Try.prog 57 129 g off w := run_loadVarR isRow_57 g off w
@[go_sem] theorem run_storeVar_57 (g off : Nat) (vs : Array Value) (w : World) : (storeVarR 57 129 ⟨g, off, none⟩ (.agg vs)).run Try.prog w = storedR Try.prog 57 129 g off vs w := run_storeVarR isRow_57 g off vs w

@[go_sem ↓] theorem loadVar_58 (a : Addr) : loadVar 58 a = loadVarR 58 32 a := by unfold loadVarR; rw [if_pos rfl]
@[go_sem ↓] theorem storeVar_58 (a : Addr) (v : Value) : storeVar 58 a v = storeVarR 58 32 a v := by unfold storeVarR; rw [if_pos rfl]
theorem isRow_58 : isRow Try.prog 58 32 = true := by kernel_rfl
@[go_sem] theorem run_loadVar_58 (g off : Nat) (w : World) : (loadVarR 58 32 ⟨g, off, none⟩).run Try.prog w = loadedR Try.prog 58 32 g off w := run_loadVarR isRow_58 g off w
@[go_sem] theorem run_storeVar_58 (g off : Nat) (vs : Array Value) (w : World) : (storeVarR 58 32 ⟨g, off, none⟩ (.agg vs)).run Try.prog w = storedR Try.prog 58 32 g off vs w := run_storeVarR isRow_58 g off vs w
theorem isBytes_58 : isBytes Try.prog 58 32 = true := by kernel_rfl
@[go_sem] theorem run_index_58 (cs : Array Value) (k : IntKind) (i : Int) (w : World) : (Instr.index 58 (.agg cs) (.int k i)).run Try.prog w = indexedB Try.prog 58 32 cs k i w := run_indexB isBytes_58 cs k i w
@[go_sem] theorem run_equalIn_58 (l m : List UInt8) (hl : csz (bvs l) = 32) (hm : csz (bvs m) = 32) (w : World) : (Op.equalIn 10000 58 (.agg (bvs l)) (.agg (bvs m))).run Try.prog w = .ok (l == m) w := run_equalIn_bytes isBytes_58 l m hl hm w

@[go_sem ↓] theorem loadVar_59 (a : Addr) : loadVar 59 a = loadVarR 59 32 a := by unfold loadVarR; rw [if_pos rfl]
@[go_sem ↓] theorem storeVar_59 (a : Addr) (v : Value) : storeVar 59 a v = storeVarR 59 32 a v := by unfold storeVarR; rw [if_pos rfl]
theorem isRow_59 : isRow Try.prog 59 32 = true := by kernel_rfl
@[go_sem] theorem run_loadVar_59 (g off : Nat) (w : World) : (loadVarR 59 32 ⟨g, off, none⟩).run Try.prog w = loadedR Try.prog 59 32 g off w := run_loadVarR isRow_59 g off w
@[go_sem] theorem run_storeVar_59 (g off : Nat) (vs : Array Value) (w : World) : (storeVarR 59 32 ⟨g, off, none⟩ (.agg vs)).run Try.prog w = storedR Try.prog 59 32 g off vs w := run_storeVarR isRow_59 g off vs w
theorem isBytes_59 : isBytes Try.prog 59 32 = true := by kernel_rfl
@[go_sem] theorem run_index_59 (cs : Array Value) (k : IntKind) (i : Int) (w : World) : (Instr.index 59 (.agg cs) (.int k i)).run Try.prog w = indexedB Try.prog 59 32 cs k i w := run_indexB isBytes_59 cs k i w
@[go_sem] theorem run_equalIn_59 (l m : List UInt8) (hl : csz (bvs l) = 32) (hm : csz (bvs m) = 32) (w : World) : (Op.equalIn 10000 59 (.agg (bvs l)) (.agg (bvs m))).run Try.prog w = .ok (l == m) w := run_equalIn_bytes isBytes_59 l m hl hm w

@[go_sem ↓] theorem loadVar_62 (a : Addr) : loadVar 62 a = loadVarR 62 4 a := by unfold loadVarR; rw [if_pos rfl]
@[go_sem ↓] theorem storeVar_62 (a : Addr) (v : Value) : storeVar 62 a v = storeVarR 62 4 a v := by unfold storeVarR; rw [if_pos rfl]
theorem isRow_62 : isRow Try.prog 62 4 = true := by kernel_rfl
@[go_sem] theorem run_loadVar_62 (g off : Nat) (w : World) : (loadVarR 62 4 ⟨g, off, none⟩).run Try.prog w = loadedR Try.prog 62 4 g off w := run_loadVarR isRow_62 g off w
@[go_sem] theorem run_storeVar_62 (g off : Nat) (vs : Array Value) (w : World) : (storeVarR 62 4 ⟨g, off, none⟩ (.agg vs)).run Try.prog w = storedR Try.prog 62 4 g off vs w := run_storeVarR isRow_62 g off vs w

@[go_sem ↓] theorem loadVar_63 (a : Addr) : loadVar 63 a = loadVarR 63 4 a := by unfold loadVarR; rw [if_pos rfl]
@[go_sem ↓] theorem storeVar_63 (a : Addr) (v : Value) : storeVar 63 a v = storeVarR 63 4 a v := by unfold storeVarR; rw [if_pos rfl]
theorem isRow_63 : isRow Try.prog 63 4 = true := by kernel_rfl
@[go_sem] theorem run_loadVar_63 (g off : Nat) (w : World) : (loadVarR 63 4 ⟨g, off, none⟩).run Try.prog w = loadedR Try.prog 63 4 g off w := run_loadVarR isRow_63 g off w
@[go_sem] theorem run_storeVar_63 (g off : Nat) (vs : Array Value) (w : World) : (storeVarR 63 4 ⟨g, off, none⟩ (.agg vs)).run Try.prog w = storedR Try.prog 63 4 g off vs w := run_storeVarR isRow_63 g off vs w

@[go_sem ↓] theorem loadVar_69 (a : Addr) : loadVar 69 a = loadVarR 69 64 a := by unfold loadVarR; rw [if_pos rfl]
@[go_sem ↓] theorem storeVar_69 (a : Addr) (v : Value) : storeVar 69 a v = storeVarR 69 64 a v := by unfold storeVarR; rw [if_pos rfl]
theorem isRow_69 : isRow Try.prog 69 64 = true := by kernel_rfl
@[go_sem] theorem run_loadVar_69 (g off : Nat) (w : World) : (loadVarR 69 64 ⟨g, off, none⟩).run Try.prog w = loadedR Try.prog 69 64 g off w := run_loadVarR isRow_69 g off w
@[go_sem] theorem run_storeVar_69 (g off : Nat) (vs : Array Value) (w : World) : (storeVarR 69 64 ⟨g, off, none⟩ (.agg vs)).run Try.prog w = storedR Try.prog 69 64 g off vs w := run_storeVarR isRow_69 g off vs w

@[go_sem ↓] theorem loadVar_70 (a : Addr) : loadVar 70 a = loadVarR 70 24 a := by unfold loadVarR; rw [if_pos rfl]
@[go_sem ↓] theorem storeVar_70 (a : Addr) (v : Value) : storeVar 70 a v = storeVarR 70 24 a v := by unfold storeVarR; rw [if_pos rfl]
theorem isRow_70 : isRow Try.prog 70 24 = true := by kernel_rfl
@[go_sem] theorem run_loadVar_70 (g off : Nat) (w : World) : (loadVarR 70 24 ⟨g, off, none⟩).run Try.prog w = loadedR Try.prog 70 24 g off w := run_loadVarR isRow_70 g off w
@[go_sem] theorem run_storeVar_70 (g off : Nat) (vs : Array Value) (w : World) : (storeVarR 70 24 ⟨g, off, none⟩ (.agg vs)).run Try.prog w = storedR Try.prog 70 24 g off vs w := run_storeVarR isRow_70 g off vs w
theorem isBytes_70 : isBytes Try.prog 70 24 = true := by kernel_rfl
@[go_sem] theorem run_index_70 (cs : Array Value) (k : IntKind) (i : Int) (w : World) : (Instr.index 70 (.agg cs) (.int k i)).run Try.prog w = indexedB Try.prog 70 24 cs k i w := run_indexB isBytes_70 cs k i w
@[go_sem] theorem run_equalIn_70 (l m : List UInt8) (hl : csz (bvs l) = 24) (hm : csz (bvs m) = 24) (w : World) : (Op.equalIn 10000 70 (.agg (bvs l)) (.agg (bvs m))).run Try.prog w = .ok (l == m) w := run_equalIn_bytes isBytes_70 l m hl hm w

@[go_sem ↓] theorem loadVar_71 (a : Addr) : loadVar 71 a = loadVarR 71 89 a := by unfold loadVarR; rw [if_pos rfl]
@[go_sem ↓] theorem storeVar_71 (a : Addr) (v : Value) : storeVar 71 a v = storeVarR 71 89 a v := by unfold storeVarR; rw [if_pos rfl]
theorem isRow_71 : isRow Try.prog 71 89 = true := by kernel_rfl
@[go_sem] theorem run_loadVar_71 (g off : Nat) (w : World) : (loadVarR 71 89 ⟨g, off, none⟩).run Try.prog w = loadedR Try.prog 71 89 g off w := run_loadVarR isRow_71 g off w
@[go_sem] theorem run_storeVar_71 (g off : Nat) (vs : Array Value) (w : World) : (storeVarR 71 89 ⟨g, off, none⟩ (.agg vs)).run Try.prog w = storedR Try.prog 71 89 g off vs w := run_storeVarR isRow_71 g off vs w

@[go_sem ↓] theorem loadVar_72 (a : Addr) : loadVar 72 a = loadVarR 72 89 a := by unfold loadVarR; rw [if_pos rfl]
@[go_sem ↓] theorem storeVar_72 (a : Addr) (v : Value) : storeVar 72 a v = storeVarR 72 89 a v := by unfold storeVarR; rw [if_pos rfl]
theorem isRow_72 : isRow Try.prog 72 89 = true := by kernel_rfl
@[go_sem] theorem run_loadVar_72 (g off : Nat) (w : World) : (loadVarR 72 89 ⟨g, off, none⟩).run Try.prog w = loadedR Try.prog 72 89 g off w := run_loadVarR isRow_72 g off w
@[go_sem] theorem run_storeVar_72 (g off : Nat) (vs : Array Value) (w : World) : (storeVarR 72 89 ⟨g, off, none⟩ (.agg vs)).run Try.prog w = storedR Try.prog 72 89 g off vs w := run_storeVarR isRow_72 g off vs w

@[go_sem ↓] theorem loadVar_80 (a : Addr) : loadVar 80 a = loadVarR 80 64 a := by unfold loadVarR; rw [if_pos rfl]
@[go_sem ↓] theorem storeVar_80 (a : Addr) (v : Value) : storeVar 80 a v = storeVarR 80 64 a v := by unfold storeVarR; rw [if_pos rfl]
theorem isRow_80 : isRow Try.prog 80 64 = true := by kernel_rfl
@[go_sem] theorem run_loadVar_80 (g off : Nat) (w : World) : (loadVarR 80 64 ⟨g, off, none⟩).run Try.prog w = loadedR Try.prog 80 64 g off w := run_loadVarR isRow_80 g off w
@[go_sem] theorem run_storeVar_80 (g off : Nat) (vs : Array Value) (w : World) : (storeVarR 80 64 ⟨g, off, none⟩ (.agg vs)).run Try.prog w = storedR Try.prog 80 64 g off vs w := run_storeVarR isRow_80 g off vs w

@[go_sem ↓] theorem loadVar_81 (a : Addr) : loadVar 81 a = loadVarR 81 64 a := by unfold loadVarR; rw [if_pos rfl]
@[go_sem ↓] theorem storeVar_81 (a : Addr) (v : Value) : storeVar 81 a v = storeVarR 81 64 a v := by unfold storeVarR; rw [if_pos rfl]
theorem isRow_81 : isRow Try.prog 81 64 = true := by kernel_rfl
@[go_sem] theorem run_loadVar_81 (g off : Nat) (w : World) : (loadVarR 81 64 ⟨g, off, none⟩).run Try.prog w = loadedR Try.prog 81 64 g off w := run_loadVarR isRow_81 g off w
@[go_sem] theorem run_storeVar_81 (g off : Nat) (vs : Array Value) (w : World) : (storeVarR 81 64 ⟨g, off, none⟩ (.agg vs)).run Try.prog w = storedR Try.prog 81 64 g off vs w := run_storeVarR isRow_81 g off vs w

@[go_sem ↓] theorem loadVar_94 (a : Addr) : loadVar 94 a = loadVarR 94 2 a := by unfold loadVarR; rw [if_pos rfl]
@[go_sem ↓] theorem storeVar_94 (a : Addr) (v : Value) : storeVar 94 a v = storeVarR 94 2 a v := by unfold storeVarR; rw [if_pos rfl]
theorem isRow_94 : isRow Try.prog 94 2 = true := by kernel_rfl
@[go_sem] theorem run_loadVar_94 (g off : Nat) (w : World) : (loadVarR 94 2 ⟨g, off, none⟩).run Try.prog w = loadedR Try.prog 94 2 g off w := run_loadVarR isRow_94 g off w
@[go_sem] theorem run_storeVar_94 (g off : Nat) (vs : Array Value) (w : World) : (storeVarR 94 2 ⟨g, off, none⟩ (.agg vs)).run Try.prog w = storedR Try.prog 94 2 g off vs w := run_storeVarR isRow_94 g off vs w

@[go_sem ↓] theorem loadVar_95 (a : Addr) : loadVar 95 a = loadVarR 95 2 a := by unfold loadVarR; rw [if_pos rfl]
@[go_sem ↓] theorem storeVar_95 (a : Addr) (v : Value) : storeVar 95 a v = storeVarR 95 2 a v := by unfold storeVarR; rw [if_pos rfl]
theorem isRow_95 : isRow Try.prog 95 2 = true := by kernel_rfl
@[go_sem] theorem run_loadVar_95 (g off : Nat) (w : World) : (loadVarR 95 2 ⟨g, off, none⟩).run Try.prog w = loadedR Try.prog 95 2 g off w := run_loadVarR isRow_95 g off w
@[go_sem] theorem run_storeVar_95 (g off : Nat) (vs : Array Value) (w : World) : (storeVarR 95 2 ⟨g, off, none⟩ (.agg vs)).run Try.prog w = storedR Try.prog 95 2 g off vs w := run_storeVarR isRow_95 g off vs w

@[go_sem ↓] theorem loadVar_128 (a : Addr) : loadVar 128 a = loadVarR 128 64 a := by unfold loadVarR; rw [if_pos rfl]
@[go_sem ↓] theorem storeVar_128 (a : Addr) (v : Value) : storeVar 128 a v = storeVarR 128 64 a v := by unfold storeVarR; rw [if_pos rfl]
theorem isRow_128 : isRow Try.prog 128 64 = true := by kernel_rfl
@[go_sem] theorem run_loadVar_128 (g off : Nat) (w : World) : (loadVarR 128 64 ⟨g, off, none⟩).run Try.prog w = loadedR Try.prog 128 64 g off w := run_loadVarR isRow_128 g off w
@[go_sem] theorem run_storeVar_128 (g off : Nat) (vs : Array Value) (w : World) : (storeVarR 128 64 ⟨g, off, none⟩ (.agg vs)).run Try.prog w = storedR Try.prog 128 64 g off vs w := run_storeVarR isRow_128 g off vs w

@[go_sem ↓] theorem loadVar_129 (a : Addr) : loadVar 129 a = loadVarR 129 8 a := by unfold loadVarR; rw [if_pos rfl]
@[go_sem ↓] theorem storeVar_129 (a : Addr) (v : Value) : storeVar 129 a v = storeVarR 129 8 a v := by unfold storeVarR; rw [if_pos rfl]
theorem isRow_129 : isRow Try.prog 129 8 = true := by kernel_rfl
@[go_sem] theorem run_loadVar_129 (g off : Nat) (w : World) : (loadVarR 129 8 ⟨g, off, none⟩).run Try.prog w = loadedR Try.prog 129 8 g off w := run_loadVarR isRow_129 g off w
@[go_sem] theorem run_storeVar_129 (g off : Nat) (vs : Array Value) (w : World) : (storeVarR 129 8 ⟨g, off, none⟩ (.agg vs)).run Try.prog w = storedR Try.prog 129 8 g off vs w := run_storeVarR isRow_129 g off vs w

@[go_sem ↓] theorem loadVar_139 (a : Addr) : loadVar 139 a = loadVarR 139 64 a := by unfold loadVarR; rw [if_pos rfl]
@[go_sem ↓] theorem storeVar_139 (a : Addr) (v : Value) : storeVar 139 a v = storeVarR 139 64 a v := by unfold storeVarR; rw [if_pos rfl]
theorem isRow_139 : isRow Try.prog 139 64 = true := by kernel_rfl
@[go_sem] theorem run_loadVar_139 (g off : Nat) (w : World) : (loadVarR 139 64 ⟨g, off, none⟩).run Try.prog w = loadedR Try.prog 139 64 g off w := run_loadVarR isRow_139 g off w
@[go_sem] theorem run_storeVar_139 (g off : Nat) (vs : Array Value) (w : World) : (storeVarR 139 64 ⟨g, off, none⟩ (.agg vs)).run Try.prog w = storedR Try.prog 139 64 g off vs w := run_storeVarR isRow_139 g off vs w
theorem isBytes_139 : isBytes Try.prog 139 64 = true := by kernel_rfl
@[go_sem] theorem run_index_139 (cs : Array Value) (k : IntKind) (i : Int) (w : World) : (Instr.index 139 (.agg cs) (.int k i)).run Try.prog w = indexedB Try.prog 139 64 cs k i w := run_indexB isBytes_139 cs k i w
@[go_sem] theorem run_equalIn_139 (l m : List UInt8) (hl : csz (bvs l) = 64) (hm : csz (bvs m) = 64) (w : World) : (Op.equalIn 10000 139 (.agg (bvs l)) (.agg (bvs m))).run Try.prog w = .ok (l == m) w := run_equalIn_bytes isBytes_139 l m hl hm w

@[go_sem ↓] theorem loadVar_148 (a : Addr) : loadVar 148 a = loadVarR 148 16 a := by unfold loadVarR; rw [if_pos rfl]
@[go_sem ↓] theorem storeVar_148 (a : Addr) (v : Value) : storeVar 148 a v = storeVarR 148 16 a v := by unfold storeVarR; rw [if_pos rfl]
theorem isRow_148 : isRow Try.prog 148 16 = true := by kernel_rfl
@[go_sem] theorem run_loadVar_148 (g off : Nat) (w : World) : (loadVarR 148 16 ⟨g, off, none⟩).run Try.prog w = loadedR Try.prog 148 16 g off w := run_loadVarR isRow_148 g off w
@[go_sem] theorem run_storeVar_148 (g off : Nat) (vs : Array Value) (w : World) : (storeVarR 148 16 ⟨g, off, none⟩ (.agg vs)).run Try.prog w = storedR Try.prog 148 16 g off vs w := run_storeVarR isRow_148 g off vs w
theorem isBytes_148 : isBytes Try.prog 148 16 = true := by kernel_rfl
@[go_sem] theorem run_index_148 (cs : Array Value) (k : IntKind) (i : Int) (w : World) : (Instr.index 148 (.agg cs) (.int k i)).run Try.prog w = indexedB Try.prog 148 16 cs k i w := run_indexB isBytes_148 cs k i w
@[go_sem] theorem run_equalIn_148 (l m : List UInt8) (hl : csz (bvs l) = 16) (hm : csz (bvs m) = 16) (w : World) : (Op.equalIn 10000 148 (.agg (bvs l)) (.agg (bvs m))).run Try.prog w = .ok (l == m) w := run_equalIn_bytes isBytes_148 l m hl hm w

@[go_sem ↓] theorem loadVar_149 (a : Addr) : loadVar 149 a = loadVarR 149 16 a := by unfold loadVarR; rw [if_pos rfl]
@[go_sem ↓] theorem storeVar_149 (a : Addr) (v : Value) : storeVar 149 a v = storeVarR 149 16 a v := by unfold storeVarR; rw [if_pos rfl]
theorem isRow_149 : isRow Try.prog 149 16 = true := by kernel_rfl
@[go_sem] theorem run_loadVar_149 (g off : Nat) (w : World) : (loadVarR 149 16 ⟨g, off, none⟩).run Try.prog w = loadedR Try.prog 149 16 g off w := run_loadVarR isRow_149 g off w
@[go_sem] theorem run_storeVar_149 (g off : Nat) (vs : Array Value) (w : World) : (storeVarR 149 16 ⟨g, off, none⟩ (.agg vs)).run Try.prog w = storedR Try.prog 149 16 g off vs w := run_storeVarR isRow_149 g off vs w
theorem isBytes_149 : isBytes Try.prog 149 16 = true := by kernel_rfl
@[go_sem] theorem run_index_149 (cs : Array Value) (k : IntKind) (i : Int) (w : World) : (Instr.index 149 (.agg cs) (.int k i)).run Try.prog w = indexedB Try.prog 149 16 cs k i w := run_indexB isBytes_149 cs k i w
@[go_sem] theorem run_equalIn_149 (l m : List UInt8) (hl : csz (bvs l) = 16) (hm : csz (bvs m) = 16) (w : World) : (Op.equalIn 10000 149 (.agg (bvs l)) (.agg (bvs m))).run Try.prog w = .ok (l == m) w := run_equalIn_bytes isBytes_149 l m hl hm w

@[go_sem ↓] theorem loadVar_164 (a : Addr) : loadVar 164 a = loadVarR 164 4 a := by unfold loadVarR; rw [if_pos rfl]
@[go_sem ↓] theorem storeVar_164 (a : Addr) (v : Value) : storeVar 164 a v = storeVarR 164 4 a v := by unfold storeVarR; rw [if_pos rfl]
theorem isRow_164 : isRow Try.prog 164 4 = true := by kernel_rfl
@[go_sem] theorem run_loadVar_164 (g off : Nat) (w : World) : (loadVarR 164 4 ⟨g, off, none⟩).run Try.prog w = loadedR Try.prog 164 4 g off w := run_loadVarR isRow_164 g off w
@[go_sem] theorem run_storeVar_164 (g off : Nat) (vs : Array Value) (w : World) : (storeVarR 164 4 ⟨g, off, none⟩ (.agg vs)).run Try.prog w = storedR Try.prog 164 4 g off vs w := run_storeVarR isRow_164 g off vs w
theorem isBytes_164 : isBytes Try.prog 164 4 = true := by kernel_rfl
@[go_sem] theorem run_index_164 (cs : Array Value) (k : IntKind) (i : Int) (w : World) : (Instr.index 164 (.agg cs) (.int k i)).run Try.prog w = indexedB Try.prog 164 4 cs k i w := run_indexB isBytes_164 cs k i w
@[go_sem] theorem run_equalIn_164 (l m : List UInt8) (hl : csz (bvs l) = 4) (hm : csz (bvs m) = 4) (w : World) : (Op.equalIn 10000 164 (.agg (bvs l)) (.agg (bvs m))).run Try.prog w = .ok (l == m) w := run_equalIn_bytes isBytes_164 l m hl hm w

@[go_sem ↓] theorem loadVar_170 (a : Addr) : loadVar 170 a = loadVarR 170 256 a := by unfold loadVarR; rw [if_pos rfl]
@[go_sem ↓] theorem storeVar_170 (a : Addr) (v : Value) : storeVar 170 a v = storeVarR 170 256 a v := by unfold storeVarR; rw [if_pos rfl]
theorem isRow_170 : isRow Try.prog 170 256 = true := by kernel_rfl
@[go_sem] theorem run_loadVar_170 (g off : Nat) (w : World) : (loadVarR 170 256 ⟨g, off, none⟩).run Try.prog w = loadedR Try.prog 170 256 g off w := run_loadVarR isRow_170 g off w
@[go_sem] theorem run_storeVar_170 (g off : Nat) (vs : Array Value) (w : World) : (storeVarR 170 256 ⟨g, off, none⟩ (.agg vs)).run Try.prog w = storedR Try.prog 170 256 g off vs w := run_storeVarR isRow_170 g off vs w
theorem isBytes_170 : isBytes Try.prog 170 256 = true := by kernel_rfl
@[go_sem] theorem run_index_170 (cs : Array Value) (k : IntKind) (i : Int) (w : World) : (Instr.index 170 (.agg cs) (.int k i)).run Try.prog w = indexedB Try.prog 170 256 cs k i w := run_indexB isBytes_170 cs k i w
@[go_sem] theorem run_equalIn_170 (l m : List UInt8) (hl : csz (bvs l) = 256) (hm : csz (bvs m) = 256) (w : World) : (Op.equalIn 10000 170 (.agg (bvs l)) (.agg (bvs m))).run Try.prog w = .ok (l == m) w := run_equalIn_bytes isBytes_170 l m hl hm w

@[go_sem ↓] theorem loadVar_194 (a : Addr) : loadVar 194 a = loadVarR 194 16 a := by unfold loadVarR; rw [if_pos rfl]
@[go_sem ↓] theorem storeVar_194 (a : Addr) (v : Value) : storeVar 194 a v = storeVarR 194 16 a v := by unfold storeVarR; rw [if_pos rfl]
theorem isRow_194 : isRow Try.prog 194 16 = true := by kernel_rfl
@[go_sem] theorem run_loadVar_194 (g off : Nat) (w : World) : (loadVarR 194 16 ⟨g, off, none⟩).run Try.prog w = loadedR Try.prog 194 16 g off w := run_loadVarR isRow_194 g off w
@[go_sem] theorem run_storeVar_194 (g off : Nat) (vs : Array Value) (w : World) : (storeVarR 194 16 ⟨g, off, none⟩ (.agg vs)).run Try.prog w = storedR Try.prog 194 16 g off vs w := run_storeVarR isRow_194 g off vs w

@[go_sem ↓] theorem loadVar_206 (a : Addr) : loadVar 206 a = loadVarR 206 15 a := by unfold loadVarR; rw [if_pos rfl]
@[go_sem ↓] theorem storeVar_206 (a : Addr) (v : Value) : storeVar 206 a v = storeVarR 206 15 a v := by unfold storeVarR; rw [if_pos rfl]
theorem isRow_206 : isRow Try.prog 206 15 = true := by kernel_rfl
@[go_sem] theorem run_loadVar_206 (g off : Nat) (w : World) : (loadVarR 206 15 ⟨g, off, none⟩).run Try.prog w = loadedR Try.prog 206 15 g off w := run_loadVarR isRow_206 g off w
@[go_sem] theorem run_storeVar_206 (g off : Nat) (vs : Array Value) (w : World) : (storeVarR 206 15 ⟨g, off, none⟩ (.agg vs)).run Try.prog w = storedR Try.prog 206 15 g off vs w := run_storeVarR isRow_206 g off vs w

@[go_sem ↓] theorem loadVar_213 (a : Addr) : loadVar 213 a = loadVarR 213 4 a := by unfold loadVarR; rw [if_pos rfl]
@[go_sem ↓] theorem storeVar_213 (a : Addr) (v : Value) : storeVar 213 a v = storeVarR 213 4 a v := by unfold storeVarR; rw [if_pos rfl]
theorem isRow_213 : isRow Try.prog 213 4 = true := by kernel_rfl
@[go_sem] theorem run_loadVar_213 (g off : Nat) (w : World) : (loadVarR 213 4 ⟨g, off, none⟩).run Try.prog w = loadedR Try.prog 213 4 g off w := run_loadVarR isRow_213 g off w
@[go_sem] theorem run_storeVar_213 (g off : Nat) (vs : Array Value) (w : World) : (storeVarR 213 4 ⟨g, off, none⟩ (.agg vs)).run Try.prog w = storedR Try.prog 213 4 g off vs w := run_storeVarR isRow_213 g off vs w

@[go_sem ↓] theorem loadVar_214 (a : Addr) : loadVar 214 a = loadVarR 214 4 a := by unfold loadVarR; rw [if_pos rfl]
@[go_sem ↓] theorem storeVar_214 (a : Addr) (v : Value) : storeVar 214 a v = storeVarR 214 4 a v := by unfold storeVarR; rw [if_pos rfl]
theorem isRow_214 : isRow Try.prog 214 4 = true := by kernel_rfl
@[go_sem] theorem run_loadVar_214 (g off : Nat) (w : World) : (loadVarR 214 4 ⟨g, off, none⟩).run Try.prog w = loadedR Try.prog 214 4 g off w := run_loadVarR isRow_214 g off w
@[go_sem] theorem run_storeVar_214 (g off : Nat) (vs : Array Value) (w : World) : (storeVarR 214 4 ⟨g, off, none⟩ (.agg vs)).run Try.prog w = storedR Try.prog 214 4 g off vs w := run_storeVarR isRow_214 g off vs w

@[go_sem ↓] theorem loadVar_225 (a : Addr) : loadVar 225 a = loadVarR 225 11 a := by unfold loadVarR; rw [if_pos rfl]
@[go_sem ↓] theorem storeVar_225 (a : Addr) (v : Value) : storeVar 225 a v = storeVarR 225 11 a v := by unfold storeVarR; rw [if_pos rfl]
theorem isRow_225 : isRow Try.prog 225 11 = true := by kernel_rfl
@[go_sem] theorem run_loadVar_225 (g off : Nat) (w : World) : (loadVarR 225 11 ⟨g, off, none⟩).run Try.prog w = loadedR Try.prog 225 11 g off w := run_loadVarR isRow_225 g off w
@[go_sem] theorem run_storeVar_225 (g off : Nat) (vs : Array Value) (w : World) : (storeVarR 225 11 ⟨g, off, none⟩ (.agg vs)).run Try.prog w = storedR Try.prog 225 11 g off vs w := run_storeVarR isRow_225 g off vs w

@[go_sem ↓] theorem loadVar_226 (a : Addr) : loadVar 226 a = loadVarR 226 11 a := by unfold loadVarR; rw [if_pos rfl]
@[go_sem ↓] theorem storeVar_226 (a : Addr) (v : Value) : storeVar 226 a v = storeVarR 226 11 a v := by unfold storeVarR; rw [if_pos rfl]
theorem isRow_226 : isRow Try.prog 226 11 = true := by kernel_rfl
@[go_sem] theorem run_loadVar_226 (g off : Nat) (w : World) : (loadVarR 226 11 ⟨g, off, none⟩).run Try.prog w = loadedR Try.prog 226 11 g off w := run_loadVarR isRow_226 g off w
@[go_sem] theorem run_storeVar_226 (g off : Nat) (vs : Array Value) (w : World) : (storeVarR 226 11 ⟨g, off, none⟩ (.agg vs)).run Try.prog w = storedR Try.prog 226 11 g off vs w := run_storeVarR isRow_226 g off vs w

theorem elem_22 : elemB Try.prog 22 5 1 1 = true := by kernel_rfl
theorem elem_23 : elemB Try.prog 23 95 2 32 = true := by kernel_rfl
theorem elem_25 : elemB Try.prog 25 31 128 128 = true := by kernel_rfl
theorem elem_32 : elemB Try.prog 32 57 129 136 = true := by kernel_rfl
theorem elem_43 : elemB Try.prog 43 22 1 24 = true := by kernel_rfl
theorem elem_46 : elemB Try.prog 46 3 1 8 = true := by kernel_rfl
theorem elem_143 : elemB Try.prog 143 149 16 16 = true := by kernel_rfl
theorem elem_163 : elemB Try.prog 163 164 4 4 = true := by kernel_rfl
theorem elem_187 : elemB Try.prog 187 127 1 4 = true := by kernel_rfl

end Go.Proofs.Ytkfggilildiflab

namespace Go.Proofs.Ytkfggilildiflab
open Go.ChangeShapes Go.WideShapes Go.ChangeAt Go.RowKit

/-- Cells that read as an array of bytes are a list of so many bytes. -/
theorem trod_bytes {P : Program} {H : Type} {enc : TypeId × Value → H} {w : World} {base fuel : Nat} {sp : Nat → Bool} {held : Bool} {t n : Nat} {cs : List Value} {x : DataW H × List MemPlace}
    (h : isBytes P t n = true) (hc : P.cellsOf t = n) (hone : ∀ e, P.underlying t = some (.array n e) → P.cellsOf e = 1) (hf : DataW.trod enc P w base sp held fuel t cs = some x) : ∃ l : List UInt8, l.length = n ∧ cs = l.map bv := by
  obtain ⟨e, hu, he, _⟩ := isBytes_iff h
  have h1 := hone e hu
  obtain ⟨xs, m, rfl, hx, hl, hxl, hi⟩ := DataW.trod_array hu hf
  rw [hc] at hl
  have key : ∀ i, i < n → ∃ x : UInt8, cs[i]? = some (bv x) := by
    intro i hin
    have h2 := hi i hin
    rw [h1, Nat.mul_one] at h2
    have hics : i < cs.length := by omega
    have e3 : (cs.drop i).take 1 = [cs[i]] := by
      rw [List.drop_eq_getElem_cons hics]; rfl
    rw [e3, List.getElem?_eq_getElem (by omega)] at h2
    obtain ⟨a, e4, _, wf⟩ := DataW.trod_int he h2
    simp at e4
    rw [List.getElem?_eq_getElem hics, e4]
    have q1 : IntKind.u8.min = 0 := rfl
    have q2 : IntKind.u8.max = 255 := rfl
    simp only [Lit.wf, Bool.and_eq_true, decide_eq_true_eq] at wf
    refine ⟨UInt8.ofNat a.toNat, ?_⟩
    simp only [bv]
    have : ((UInt8.ofNat a.toNat).toNat : Int) = a := by simp; omega
    rw [this]
  refine ⟨(List.range n).map fun i => if hin : i < n then (key i hin).choose else 0, by simp, ?_⟩
  apply List.ext_getElem
  · simp [hl]
  · intro i h3 h4
    have hin : i < n := by omega
    have h5 := (key i hin).choose_spec
    have h6 := (List.getElem?_eq_getElem h3).symm.trans h5
    simp only [Option.some.injEq] at h6
    refine h6.trans ?_
    simp [hin]

/-- An array of bytes that came in by value: it is a list of so many bytes. -/
theorem open_barr {P : Program} {H : Type} {enc : TypeId × Value → H} {w W : World} {r : Reach} {b0 base : Nat} {sp : Nat → Bool} {held : Bool} {t n : Nat} {v : Value} {d : DataW H} {p : List MemPlace}
    (h : isBytes P t n = true) (hc : P.cellsOf t = n) (hone : ∀ e, P.underlying t = some (.array n e) → P.cellsOf e = 1) (hv : Value.okWide P W r b0 t v) (ht : DataW.Trod enc P w base sp held t v d p) :
    ∃ l : List UInt8, l.length = n ∧ v = .agg (bvs l) := by
  obtain ⟨e, hu, _, _⟩ := isBytes_iff h
  unfold Value.okWide at hv
  simp only [hu] at hv
  obtain ⟨cs, rfl, hsz, _⟩ := hv
  obtain ⟨fuel, hf⟩ := ht
  obtain ⟨l, hl, he⟩ := trod_bytes h hc hone hf
  refine ⟨l, hl, ?_⟩
  have he2 : cs.toList = l.map bv := he
  unfold bvs
  rw [← he2, Array.toArray_toList]

/-- A number that fits a byte is a byte's. -/
theorem byte_of {n : Int} (wf : (Lit.int .u8 n).wf = true) : ∃ b : UInt8, n = (b.toNat : Int) := by
  have q1 : IntKind.u8.min = 0 := rfl
  have q2 : IntKind.u8.max = 255 := rfl
  simp only [Lit.wf, Bool.and_eq_true, decide_eq_true_eq] at wf
  refine ⟨UInt8.ofNat n.toNat, ?_⟩
  simp; omega
end Go.Proofs.Ytkfggilildiflab

namespace Go.Proofs.Ytkfggilildiflab
open Go.ChangeShapes Go.WideShapes Go.ChangeAt Go.RowKit

/-- The value is a slice of these rows of bytes, each of so many. -/
def RowsAt (w : World) (s : Nat) (v : Value) (ks : List (List UInt8)) : Prop :=
  (∀ k ∈ ks, k.length = s) ∧ ∃ p c, v = .slice p ks.length c ∧ (p = none → c = 0) ∧ ∀ i k, ks[i]? = some k → ∃ b o cs t e, p = some ⟨b, o, none⟩ ∧ blk w b = some (.cells cs t e) ∧ o + i * s + s ≤ csz cs ∧ cut cs (o + i * s) s = bvs k
/-- The value is a slice of these bytes. -/
def BytesAt (w : World) (v : Value) (l : List UInt8) : Prop :=
  ∃ p c, v = .slice p l.length c ∧ l.length ≤ c ∧ (p = none → c = 0) ∧ (l ≠ [] → ∃ b o cs t e, p = some ⟨b, o, none⟩ ∧ blk w b = some (.cells cs t e) ∧ ∀ i x, l[i]? = some x → cs[o + i]? = some (bv x))

theorem RowsAt.below {w w' : World} {s : Nat} {v : Value} {ks : List (List UInt8)} (h : RowsAt w s v ks) (hb : Below w.heap.size w w') : RowsAt w' s v ks := by
  obtain ⟨h1, p, c, h2, h0, h3⟩ := h
  refine ⟨h1, p, c, h2, h0, fun i k hi => ?_⟩
  obtain ⟨b, o, cs, t, e, h4, h5, h6⟩ := h3 i k hi
  exact ⟨b, o, cs, t, e, h4, (hb.block b (blk_lt h5)).trans h5, h6⟩
theorem BytesAt.below {w w' : World} {v : Value} {l : List UInt8} (h : BytesAt w v l) (hb : Below w.heap.size w w') : BytesAt w' v l := by
  obtain ⟨p, c, h2, h1, h0, h3⟩ := h
  refine ⟨p, c, h2, h1, h0, fun hne => ?_⟩
  obtain ⟨b, o, cs, t, e, h4, h5, h6⟩ := h3 hne
  exact ⟨b, o, cs, t, e, h4, (hb.block b (blk_lt h5)).trans h5, h6⟩
theorem RowsAt.row {w : World} {s n c : Nat} {p : Option Addr} {ks : List (List UInt8)} (h : RowsAt w s (.slice p n c) ks) {i : Nat} {k : List UInt8} (hi : ks[i]? = some k) :
    k.length = s ∧ ∃ b o cs t e, p = some ⟨b, o, none⟩ ∧ blk w b = some (.cells cs t e) ∧ o + i * s + s ≤ csz cs ∧ cut cs (o + i * s) s = bvs k := by
  obtain ⟨h1, p', c', h2, _, h3⟩ := h
  simp only [Value.slice.injEq] at h2
  obtain ⟨rfl, _, _⟩ := h2
  exact ⟨h1 k (List.mem_of_getElem? hi), h3 i k hi⟩
theorem blk_of_cell {w : World} {a : Addr} {v : Value} (h : w.cell? a = some v) : ∃ b o cs t e, a = ⟨b, o, none⟩ ∧ blk w b = some (.cells cs t e) ∧ cs[o]? = some v := by
  unfold World.cell? at h
  cases ho : w.heap[a.block]? with
  | none => simp [ho] at h
  | some o =>
    cases o with
    | cells c t fr =>
      simp only [ho] at h
      obtain ⟨b, o, sp⟩ := a
      cases sp with
      | some s => simp at h
      | none => exact ⟨b, o, c, t, fr, rfl, ho, by simpa using h⟩
    | _ => simp [ho] at h

theorem add_addr (b o j : Nat) : (⟨b, o, none⟩ : Addr).add j = ⟨b, o + j, none⟩ := by
  unfold Addr.add
  split <;> simp_all

/-- Cells in a row are a piece of a block. -/
theorem piece_of_cells {w : World} {base : Nat} {a : Addr} {n : Nat} {l : List UInt8} (hn : 0 < n) (hl : l.length = n) (h : w.cells? base a n = some (l.map bv)) :
    ∃ b o cs t e, a = ⟨b, o, none⟩ ∧ blk w b = some (.cells cs t e) ∧ ∀ i x, l[i]? = some x → cs[o + i]? = some (bv x) := by
  have hc := (World.cells?_some h).2.2
  have h0 := hc 0 hn
  rw [show a.add 0 = a by simp [Addr.add]] at h0
  have e0 : (l.map bv)[0]? = some (bv (l.getD 0 0)) := by simp [show 0 < l.length by omega]
  rw [e0] at h0
  obtain ⟨b, o, cs, t, e, rfl, hb, hx⟩ := blk_of_cell h0
  refine ⟨b, o, cs, t, e, rfl, hb, fun i x hi => ?_⟩
  have hil : i < l.length := (List.getElem?_eq_some_iff.1 hi).1
  have h1 := hc i (by omega)
  rw [add_addr, cell_of_row w b (o + i) cs t e hb] at h1
  rw [h1]
  simp [hi]

theorem csz_is (cs : Array Value) : csz cs = cs.size := by unfold csz; rfl
theorem cut_of_cells {cs : Array Value} {o n : Nat} {l : List UInt8} (hl : l.length = n) (hn : 0 < n) (h : ∀ i x, l[i]? = some x → cs[o + i]? = some (bv x)) : o + n ≤ csz cs ∧ cut cs o n = bvs l := by
  have hs : o + n ≤ cs.size := by
    have h1 := h (n - 1) (l.getD (n - 1) 0) (by simp [show n - 1 < l.length by omega])
    have := (Array.getElem?_eq_some_iff.1 h1).1
    omega
  refine ⟨by rw [csz_is]; exact hs, ?_⟩
  have key : cs.extract o (o + n) = bvs l := by
    apply Array.ext_getElem?
    intro i
    rw [bvs_getElem?]
    by_cases hi : i < n
    · have hx : l[i]? = some l[i] := List.getElem?_eq_getElem (by omega)
      rw [Array.getElem?_extract, hx]
      simp only [Option.map_some]
      rw [if_pos (by omega)]
      exact h i _ hx
    · rw [Array.getElem?_eq_none (by simp; omega), List.getElem?_eq_none (by omega)]; rfl
  unfold cut
  split
  · rename_i hc
    obtain ⟨rfl, hc⟩ := hc
    rw [csz_is] at hc
    rw [← key]
    simp [← hc]
  · exact key

/-- A slice of arrays of bytes that came in. -/
theorem open_rows {P : Program} {H : Type} {enc : TypeId × Value → H} {w : World} {base : Nat} {sp : Nat → Bool} {held : Bool} {t e n : Nat} {v : Value} {d : DataW H} {p : List MemPlace}
    (ht : P.underlying t = some (.slice e)) (h : isBytes P e n = true) (hc : P.cellsOf e = n) (hn : 0 < n) (hone : ∀ e2, P.underlying e = some (.array n e2) → P.cellsOf e2 = 1) (hv : ∃ a len cap, v = .slice a len cap) (hr : DataW.Trod enc P w base sp held t v d p) :
    ∃ ks, RowsAt w n v ks ∧ ks.length ≤ maxLen := by
  obtain ⟨a0, len0, cap0, rfl⟩ := hv
  obtain ⟨fuel, hf⟩ := hr
  rcases Go.Deep.open_slice ht hf with ⟨hcs, _⟩ | ⟨a, len, cap, m, n2, D, Pl, hcs, _, hlc, hcm, hm, _, hx⟩
  · simp only [Value.cells, List.cons.injEq, Value.slice.injEq, and_true] at hcs
    obtain ⟨rfl, rfl, rfl⟩ := hcs
    exact ⟨[], ⟨fun _ h => (List.not_mem_nil h).elim, none, 0, rfl, fun _ => rfl, fun i k hi => by simp at hi⟩, by simp⟩
  · simp only [Value.cells, List.cons.injEq, Value.slice.injEq, and_true] at hcs
    obtain ⟨rfl, rfl, rfl⟩ := hcs
    have hlm : len0 ≤ m := by rw [hm]; split <;> omega
    have key : ∀ i, i < len0 → ∃ l : List UInt8, l.length = n ∧ w.cells? base (a.add (i * n)) n = some (l.map bv) := by
      intro i hi
      obtain ⟨cs', h1, h2⟩ := hx i (by omega)
      obtain ⟨l, hl, rfl⟩ := trod_bytes h hc hone h2
      rw [hc] at h1
      exact ⟨l, hl, h1⟩
    refine ⟨(List.range len0).map fun i => if hi : i < len0 then (key i hi).choose else [], ⟨fun k hk => ?_, some a, cap0, by simp, (fun h => by cases h), fun i k hi => ?_⟩, by simp; omega⟩
    · obtain ⟨i, hi, rfl⟩ := List.mem_map.1 hk
      have hi2 := List.mem_range.1 hi
      simp only [dif_pos hi2]
      exact (key i hi2).choose_spec.1
    · have hil : i < len0 := by have := (List.getElem?_eq_some_iff.1 hi).1; simpa using this
      have hk : k = (key i hil).choose := by
        simp [hil] at hi
        exact hi.symm
      obtain ⟨h1, h2⟩ := (key i hil).choose_spec
      rw [← hk] at h1 h2
      obtain ⟨b, o, cs, t2, e2, ha, hb, hcs⟩ := piece_of_cells hn h1 h2
      have ha2 : ∃ o0, a = ⟨b, o0, none⟩ ∧ o = o0 + i * n := by
        have hsp : a.spot = none := by
          obtain ⟨cs0, h3, _⟩ := hx 0 (by omega)
          rw [hc, Nat.zero_mul, show a.add 0 = a by simp [Addr.add]] at h3
          have h4 := (World.cells?_some h3).2.2 0 hn
          rw [show a.add 0 = a by simp [Addr.add]] at h4
          cases hcs0 : cs0[0]? with
          | none =>
            have := (World.cells?_some h3).2.1
            rw [List.getElem?_eq_none_iff] at hcs0
            omega
          | some v0 =>
            rw [hcs0] at h4
            obtain ⟨_, _, _, _, _, he, _⟩ := blk_of_cell h4
            rw [he]
        obtain ⟨ab, ao, asp⟩ := a
        simp only at hsp
        subst hsp
        rw [add_addr] at ha
        simp only [Addr.mk.injEq] at ha
        exact ⟨ao, by rw [ha.1], ha.2.1.symm⟩
      obtain ⟨o0, rfl, rfl⟩ := ha2
      obtain ⟨c1, c2⟩ := cut_of_cells h1 hn hcs
      exact ⟨b, o0, cs, t2, e2, rfl, hb, c1, c2⟩

/-- A slice of bytes that came in. -/
theorem open_bytes {P : Program} {H : Type} {enc : TypeId × Value → H} {w : World} {base : Nat} {sp : Nat → Bool} {held : Bool} {t e : Nat} {v : Value} {d : DataW H} {p : List MemPlace}
    (ht : P.underlying t = some (.slice e)) (he : P.underlying e = some (.int .u8)) (hc : P.cellsOf e = 1) (hv : ∃ a len cap, v = .slice a len cap) (hr : DataW.Trod enc P w base sp held t v d p) :
    ∃ l, BytesAt w v l ∧ l.length ≤ maxLen := by
  obtain ⟨a0, len0, cap0, rfl⟩ := hv
  obtain ⟨fuel, hf⟩ := hr
  rcases Go.Deep.open_slice1 ht hc hf with ⟨hcs, _⟩ | ⟨a, len, cap, m, n2, V, D, Pl, hcs, _, hlc, hcm, hm, _, hx⟩
  · simp only [Value.cells, List.cons.injEq, Value.slice.injEq, and_true] at hcs
    obtain ⟨rfl, rfl, rfl⟩ := hcs
    exact ⟨[], ⟨none, 0, rfl, Nat.le_refl _, fun _ => rfl, fun h => absurd rfl h⟩, by simp⟩
  · simp only [Value.cells, List.cons.injEq, Value.slice.injEq, and_true] at hcs
    obtain ⟨rfl, rfl, rfl⟩ := hcs
    have hlm : len0 ≤ m := by rw [hm]; split <;> omega
    have key : ∀ i, i < len0 → ∃ x : UInt8, w.cell? (a.add i) = some (bv x) := by
      intro i hi
      obtain ⟨h1, h2⟩ := hx i (by omega)
      obtain ⟨x, e4, _, wf⟩ := DataW.trod_int he h2
      simp at e4
      have q1 : IntKind.u8.min = 0 := rfl
      have q2 : IntKind.u8.max = 255 := rfl
      simp only [Lit.wf, Bool.and_eq_true, decide_eq_true_eq] at wf
      refine ⟨UInt8.ofNat x.toNat, ?_⟩
      rw [h1, e4]
      simp only [bv]
      have : ((UInt8.ofNat x.toNat).toNat : Int) = x := by simp; omega
      rw [this]
    refine ⟨(List.range len0).map fun i => if hi : i < len0 then (key i hi).choose else 0, ⟨some a, cap0, by simp, by simp; omega, (fun h => by cases h), fun hne => ?_⟩, by simp; omega⟩
    have h0 : 0 < len0 := by
      rcases Nat.eq_zero_or_pos len0 with rfl | h
      · exact absurd rfl hne
      · exact h
    obtain ⟨x0, hk0⟩ := key 0 h0
    rw [show a.add 0 = a by simp [Addr.add]] at hk0
    obtain ⟨b, o, cs, t2, e2, rfl, hb, _⟩ := blk_of_cell hk0
    refine ⟨b, o, cs, t2, e2, rfl, hb, fun i x hi => ?_⟩
    have hil : i < len0 := by have := (List.getElem?_eq_some_iff.1 hi).1; simpa using this
    have hk : x = (key i hil).choose := by
      simp [hil] at hi
      exact hi.symm
    have h2 := (key i hil).choose_spec
    rw [← hk, add_addr, cell_of_row w b (o + i) cs t2 e2 hb] at h2
    exact h2
end Go.Proofs.Ytkfggilildiflab

namespace Go.Proofs.Ytkfggilildiflab
open Go.RowKit

section
variable {P : Program} {md : Region.Mode} {C : World → Prop}

theorem wpQuiet_app {ops : Array Oper} {Q Q2 : Act → Prop} {l1 : List Oper} (hq : ∀ a, Q a → wpQuiet P ops C Q2 l1 a) : ∀ (l0 : List Oper) (a : Act), wpQuiet P ops C Q l0 a → wpQuiet P ops C Q2 (l0 ++ l1) a
  | [], a, h => hq a h
  | o :: l0, a, h => by
    simp only [wpQuiet, List.cons_append] at h ⊢
    split
    · rename_i hw; rw [if_pos hw] at h; exact Oper.quiet_mono (fun a' h' => wpQuiet_app hq l0 a' h') h
    · rename_i hw; rw [if_neg hw] at h; exact wpQuiet_app hq l0 _ h

theorem ready_none {ops : Array Oper} {Q : Exit → Act → World → Prop} {listed : Array Bool} {a : Act} {w : World} (hr : Region.ready md ops listed = []) (hQ : Q .normal a w) : ∀ fuel, wpAny P md ops Q fuel listed a w
  | 0 => ⟨hr, hQ⟩
  | _ + 1 => ⟨fun _ => hQ, fun i hi => by rw [hr] at hi; cases hi⟩

/-- Every operation waits for earlier ones alone. -/
def downB (md : Region.Mode) (l : List Oper) : Bool := (List.range l.length).all fun i => match l[i]? with | some o => o.after.all fun e => !Region.binds md e || decide (e.on < i) | none => true
/-- The last operation waits for each of the others. -/
def lastB (md : Region.Mode) (n : Nat) (t : Oper) : Bool := (List.range n).all fun i => t.after.any fun e => Region.binds md e && e.on == i

theorem some_ready {l : List Oper} (hd : downB md l = true) {listed : Array Bool} (hsz : listed.size = l.length) : ∀ m, m < l.length → listed.getD m true = false → Region.ready md l.toArray listed ≠ [] := by
  intro m
  induction m using Nat.strongRecOn with
  | _ m ih =>
    intro hm hun
    have ho : l.toArray[m]? = some l[m] := by simp [hm]
    by_cases hall : ∀ e ∈ l[m].after, Region.binds md e = true → listed.getD e.on false = true
    · intro h0
      have : m ∈ Region.ready md l.toArray listed := mem_ready.2 ⟨hun, l[m], ho, hall⟩
      rw [h0] at this; cases this
    · simp only [Classical.not_forall] at hall
      obtain ⟨e, he, hb, hl⟩ := hall
      have h1 := List.all_eq_true.1 hd m (List.mem_range.2 hm)
      rw [List.getElem?_eq_getElem hm] at h1
      have h2 := Array.all_eq_true_iff_forall_mem.1 h1 e he
      simp only [hb, Bool.not_true, Bool.false_or, decide_eq_true_eq] at h2
      refine ih e.on h2 (by omega) ?_
      have h3 : e.on < listed.size := by omega
      simp only [Array.getD, h3, dif_pos] at hl ⊢
      simpa using hl

/-- The last operation, struck. -/
def struck (t : Oper) : Oper := { t with op := .move (.const (.bool false)), guard := none }

theorem at_struck (l : List Oper) (t : Oper) (i : Nat) (hi : i ≠ l.length) : (l ++ [struck t]).toArray[i]? = (l ++ [t]).toArray[i]? := by
  simp only [List.getElem?_toArray]
  rcases Nat.lt_or_ge i l.length with h | h
  · rw [List.getElem?_append_left h, List.getElem?_append_left h]
  · rw [List.getElem?_eq_none (by simp; omega), List.getElem?_eq_none (by simp; omega)]
theorem at_last (l : List Oper) (t : Oper) : (l ++ [t]).toArray[l.length]? = some t := by simp

theorem ready_struck (l : List Oper) (t : Oper) (listed : Array Bool) : Region.ready md (l ++ [struck t]).toArray listed = Region.ready md (l ++ [t]).toArray listed := by
  unfold Region.ready
  simp only [List.size_toArray, List.length_append, List.length_cons, List.length_nil]
  refine List.filter_congr fun i _ => ?_
  by_cases hi : i = l.length
  · subst hi; rw [at_last, at_last]; rfl
  · rw [at_struck l t i hi]
theorem yielded_struck (l : List Oper) (t : Oper) (tmps : Array Value) (j : Nat) : yielded (l ++ [struck t]).toArray tmps j = yielded (l ++ [t]).toArray tmps j := by
  unfold yielded
  by_cases hi : j = l.length
  · subst hi; rw [at_last, at_last]; rfl
  · rw [at_struck l t j hi]
theorem qOp_struck (l : List Oper) (t : Oper) (i : Nat) (hi : i ≠ l.length) (K : Act → Prop) (a : Act) (h : qOp P (l ++ [struck t]).toArray C i K a) : qOp P (l ++ [t]).toArray C i K a := by
  unfold qOp at *
  rw [at_struck l t i hi, show yielded (l ++ [struck t]).toArray a.tmps = yielded (l ++ [t]).toArray a.tmps from funext (yielded_struck l t a.tmps)] at h
  exact h

theorem put_none (a : Act) (v : Value) : a.put none v = a := rfl

theorem any_of_struck {Q : Exit → Act → World → Prop} {l : List Oper} {t : Oper} (htd : t.dst = none) (hdn : downB md (l ++ [t]) = true) (hla : lastB md l.length t = true) :
    ∀ (fuel : Nat) (listed : Array Bool) (a : Act), listed.size = l.length + 1 → listed.getD l.length true = false →
      wpAnyQ P md (l ++ [struck t]).toArray C (fun a' => ∀ w', C w' → wpList P (l ++ [t]).toArray Q [t] a' w') fuel listed a → ∀ w, C w → wpAny P md (l ++ [t]).toArray Q fuel listed a w
  | 0, listed, a, hsz, hun, h, w, hw => by
    have h1 := h.1
    rw [ready_struck] at h1
    exact absurd h1 (some_ready hdn (by simpa using hsz) l.length (by simp) hun)
  | fuel + 1, listed, a, hsz, hun, h, w, hw => by
    refine ⟨fun h0 => absurd h0 (some_ready hdn (by simpa using hsz) l.length (by simp) hun), fun i hi => ?_⟩
    have h2 := h.2 i (by rw [ready_struck]; exact hi)
    by_cases hil : i = l.length
    · subst hil
      obtain ⟨v, _, hK⟩ := yieldsIn_of_qOp (at_last l (struck t)) h2
      rw [show (struck t).dst = none from htd, put_none] at hK
      -- all others are listed, and so nothing is left
      have hr : Region.ready md (l ++ [t]).toArray (listed.setIfInBounds l.length true) = [] := by
        obtain ⟨_, o, ho, hall⟩ := mem_ready.1 hi
        rw [at_last] at ho
        have e : t = o := Option.some.inj ho
        subst e
        rw [List.eq_nil_iff_forall_not_mem]
        intro k hk
        obtain ⟨hku, ok, hok, _⟩ := mem_ready.1 hk
        have hkl : k < l.length + 1 := by
          have := (Array.getElem?_eq_some_iff.1 hok).1
          simpa using this
        by_cases hke : k = l.length
        · subst hke
          simp [Array.getD, hsz] at hku
        · have h3 := List.all_eq_true.1 hla k (List.mem_range.2 (by omega))
          obtain ⟨e, he, hb⟩ := Array.any_eq_true'.1 h3
          simp only [Bool.and_eq_true, beq_iff_eq] at hb
          have h4 := hall e he hb.1
          rw [hb.2] at h4
          have hks : k < listed.size := by omega
          rw [getD_set_ne true (fun h => hke h.symm)] at hku
          simp only [Array.getD, hks, dif_pos] at h4 hku
          rw [h4] at hku; cases hku
      have hR : ∀ w', C w' → wpList P (l ++ [t]).toArray Q [t] a w' := by
        cases fuel with
        | zero => exact hK.2
        | succ f => exact hK.1 (by rw [ready_struck]; exact hr)
      have h7 : wpOp P (l ++ [t]).toArray Q l.length (wpList P (l ++ [t]).toArray Q []) a w := by
        unfold wpOp
        rw [at_last]
        exact hR w hw
      exact wpOp_mono (fun a' w' h' => ready_none hr h' fuel) h7
    · have h3 := qOp_struck l t i hil _ a h2
      refine wpOp_of_qOp hw (fun a' w' hw' hK => any_of_struck htd hdn hla fuel _ a' (by simpa using hsz) ?_ hK w' hw') h3
      rw [getD_set_ne true hil]
      exact hun
end

/-- The region. -/
theorem region_tail {P : Program} {id : Nat} {Q : Exit → Act → World → Prop} {a : Act} {w : World} (l : List Oper) (t : Oper) (hm : P.follows .mixedOrders = true) (htd : t.dst = none)
    (hB : (Region.lexB .any (l ++ [struck t]).toArray && downB .any (l ++ [t]) && lastB .any l.length t) = true)
    (h : wpQuiet P (l ++ [struck t]).toArray (Cls w) (fun a' => ∀ w', Cls w w' → wpList P (l ++ [t]).toArray Q [t] a' w') l a) : (Code.region id (l ++ [t]).toArray true).wp P Q a w := by
  simp only [Bool.and_eq_true] at hB
  obtain ⟨⟨hlex, hdn⟩, hla⟩ := hB
  simp only [Region.lexB, Bool.and_eq_true] at hlex
  have h1 : wpQuiet P (l ++ [struck t]).toArray (Cls w) (fun a' => ∀ w', Cls w w' → wpList P (l ++ [t]).toArray Q [t] a' w') (l ++ [struck t]) a :=
    wpQuiet_app (fun a' ha' => BigFrame.wpQuiet_want rfl fun K hK => BigFrame.quiet_move (.const (.bool false)) rfl (hK _ (by rw [show (struck t).dst = none from htd, put_none]; exact ha'))) l a h
  have h2 := wpAnyQ_lex (C := Cls w) (md := .any) hlex.1 (l ++ [struck t]) 0 (Array.replicate (l.length + 1) false) a (by simp) (by simpa using hlex.2) h1
  refine wp_region_any hm ?_
  have h3 := any_of_struck htd hdn hla _ _ a (by simp) (by simp [Array.getD]) h2 { w with drawn := w.drawn + 1 } ⟨rfl, rfl, rfl, Nat.le_refl _, fun _ _ => rfl⟩
  simpa using h3
theorem wpQuiet_struck {P : Program} {C : World → Prop} (l : List Oper) (t : Oper) (Q : Act → Prop) : ∀ (r : List Oper) (a : Act), wpQuiet P (l ++ [t]).toArray C Q r a → wpQuiet P (l ++ [struck t]).toArray C Q r a
  | [], _, h => h
  | o :: r, a, h => by
    simp only [wpQuiet] at h ⊢
    rw [show yielded (l ++ [struck t]).toArray a.tmps = yielded (l ++ [t]).toArray a.tmps from funext (yielded_struck l t a.tmps)]
    split
    · rename_i hw; rw [if_pos hw] at h; exact Oper.quiet_mono (fun a' h' => wpQuiet_struck l t Q r a' h') h
    · rename_i hw; rw [if_neg hw] at h; exact wpQuiet_struck l t Q r _ h

def tailB (l : List Oper) : Bool := match l.getLast? with
  | some t => (match t.dst with | none => true | some _ => false) && Region.lexB .any (l.dropLast ++ [struck t]).toArray && downB .any l && lastB .any l.dropLast.length t
  | none => false

/-- The region, its operations written out: the last one, a store, waits for all others. -/
theorem region_tail_lit {P : Program} {id : Nat} {Q : Exit → Act → World → Prop} {a : Act} {w : World} {l : List Oper} (hm : P.follows .mixedOrders = true) (hB : tailB l = true)
    (h : wpQuiet P l.toArray (Cls w) (fun a' => ∀ w', Cls w w' → wpList P l.toArray Q [l.getLast?.getD default] a' w') l.dropLast a) : (Code.region id l.toArray true).wp P Q a w := by
  unfold tailB at hB
  cases hl : l.getLast? with
  | none => simp [hl] at hB
  | some t =>
    simp only [hl, Bool.and_eq_true] at hB
    obtain ⟨⟨⟨h1, h2⟩, h3⟩, h4⟩ := hB
    have htd : t.dst = none := by cases hd : t.dst <;> simp_all
    have e : l = l.dropLast ++ [t] := by
      have hne : l ≠ [] := by intro h0; subst h0; cases hl
      have := List.dropLast_concat_getLast hne
      rw [List.getLast?_eq_some_getLast hne] at hl
      rw [Option.some.inj hl] at this
      exact this.symm
    simp only [hl, Option.getD_some] at h
    generalize l.dropLast = l0 at *
    subst e
    exact region_tail l0 t hm htd (by simp only [Bool.and_eq_true]; exact ⟨⟨h2, h3⟩, h4⟩) (wpQuiet_struck l0 t _ _ _ h)

/-! ### The blocks of one's own, in a world of which no more is known -/
/-- Since one's own call began nothing has turned below; and of one's own blocks these hold these cells. -/
def St (w0 wr : World) (L : List (Nat × Array Value × TypeId)) : Prop :=
  Below w0.heap.size w0 wr ∧ (∀ x ∈ L, w0.heap.size ≤ x.1 ∧ blk wr x.1 = some (.cells x.2.1 x.2.2 (0, 0))) ∧ (L.map (·.1)).Nodup
theorem St.below {w0 wr : World} {L : List (Nat × Array Value × TypeId)} (h : St w0 wr L) : Below w0.heap.size w0 wr := h.1
theorem St.blk {w0 wr : World} {L : List (Nat × Array Value × TypeId)} (h : St w0 wr L) (i : Nat) {b : Nat} {cs : Array Value} {t : TypeId} (hi : L[i]? = some (b, cs, t)) : Go.Proofs.Ytkfggilildiflab.blk wr b = some (.cells cs t (0, 0)) :=
  (h.2.1 _ (List.mem_of_getElem? hi)).2
theorem St.at {w0 wr : World} {L : List (Nat × Array Value × TypeId)} (h : St w0 wr L) (i : Nat) {b : Nat} {cs : Array Value} {t : TypeId} (hi : L[i]? = some (b, cs, t)) :
    Go.Proofs.Ytkfggilildiflab.blk wr b = some (.cells cs t (0, 0)) ∧ (∀ o, wr.cell? ⟨b, o, none⟩ = cs[o]?) ∧ (∀ o, wr.frozen? ⟨b, o, none⟩ = false) ∧ b < wr.heap.size ∧ ¬ b = wr.heap.size := by
  have h1 := h.blk i hi
  have h2 := blk_lt h1
  exact ⟨h1, fun o => cell_of_row wr b o cs t _ h1, fun o => frozen_of_row wr b o cs t h1, h2, by omega⟩
theorem St.call {w0 wr w1 : World} {L : List (Nat × Array Value × TypeId)} (h : St w0 wr L) (hb : Below wr.heap.size wr w1) : St w0 w1 L :=
  ⟨chain h.1 h.1.size hb, fun x hx => ⟨(h.2.1 x hx).1, (hb.block _ (blk_lt (h.2.1 x hx).2)).trans (h.2.1 x hx).2⟩, h.2.2⟩
theorem St.cls {w0 wr w1 : World} {L : List (Nat × Array Value × TypeId)} (h : St w0 wr L) (hb : Cls wr w1) : St w0 w1 L := h.call hb
theorem St.drewN {w0 wr : World} {L : List (Nat × Array Value × TypeId)} (h : St w0 wr L) (n : Nat) : St w0 (wr.drewN n) L := h.call ⟨rfl, rfl, rfl, Nat.le_refl _, fun _ _ => rfl⟩
theorem St.alloc {w0 wr : World} {L : List (Nat × Array Value × TypeId)} (h : St w0 wr L) (cs : Array Value) (t : TypeId) : St w0 (wr.alloc (.cells cs t)) ((wr.heap.size, cs, t) :: L) := by
  have h1 : St w0 (wr.alloc (.cells cs t)) L := h.call ((Below.refl _ _).alloc (Nat.le_refl _) _)
  refine ⟨h1.1, fun x hx => ?_, ?_⟩
  · rcases List.mem_cons.1 hx with rfl | hx
    · exact ⟨h.1.size, by rw [blk_alloc, if_pos rfl]⟩
    · exact h1.2.1 x hx
  · simp only [List.map_cons, List.nodup_cons]
    refine ⟨fun hm => ?_, h.2.2⟩
    obtain ⟨x, hx, he⟩ := List.mem_map.1 hm
    have := blk_lt (h.2.1 x hx).2
    omega
theorem St.alloc' {w0 wr : World} {L : List (Nat × Array Value × TypeId)} {n : Nat} {cs : Array Value} {t : TypeId} (h : St w0 wr L) (hn : n = wr.heap.size) : St w0 (wr.alloc (.cells cs t)) ((n, cs, t) :: L) := by
  subst hn; exact h.alloc cs t
theorem St.start (w : World) : St w w [] := ⟨Below.refl _ _, fun _ h => (List.not_mem_nil h).elim, List.nodup_nil⟩
theorem St.setRow {w0 wr : World} {L : List (Nat × Array Value × TypeId)} (h : St w0 wr L) (i : Nat) {b : Nat} {cs : Array Value} {t : TypeId} (hi : L[i]? = some (b, cs, t)) (cs' : Array Value) : St w0 (wr.setRow b cs') (L.set i (b, cs', t)) := by
  have hm := h.2.1 _ (List.mem_of_getElem? hi)
  have hil : i < L.length := (List.getElem?_eq_some_iff.1 hi).1
  refine ⟨below_setRow' h.1 hm.1 _, fun x hx => ?_, ?_⟩
  · obtain ⟨j, hj, rfl⟩ := List.getElem_of_mem hx
    rw [List.getElem_set]
    split
    · exact ⟨hm.1, blk_setRow_same hm.2 _⟩
    · rename_i hij
      simp only [List.length_set] at hj
      have hx2 := h.2.1 L[j] (List.getElem_mem hj)
      refine ⟨hx2.1, ?_⟩
      rw [blk_setRow]
      · exact hx2.2
      · intro he
        have hn := h.2.2
        have e1 : (L.map (·.1))[i]'(by simpa using hil) = b := by
          have := (List.getElem?_eq_some_iff.1 hi).2
          simp [this]
        have e2 : (L.map (·.1))[j]'(by simpa using hj) = b := by simp [he]
        exact hij ((List.getElem_inj hn).1 (e1.trans e2.symm))
  · have e : (L.set i (b, cs', t)).map (·.1) = L.map (·.1) := by
      rw [List.map_set]
      have : b = (L.map (·.1))[i]'(by simpa using hil) := by
        have := (List.getElem?_eq_some_iff.1 hi).2
        simp [this]
      simp only [this, List.set_getElem_self]
    rw [e]; exact h.2.2
theorem St.setCell {w0 wr : World} {L : List (Nat × Array Value × TypeId)} (h : St w0 wr L) (i : Nat) {b : Nat} {cs : Array Value} {t : TypeId} (hi : L[i]? = some (b, cs, t)) (o : Nat) (v : Value) : St w0 (wr.setCell ⟨b, o, none⟩ v) (L.set i (b, cs.setIfInBounds o v, t)) := by
  rw [setCell_eq_setRow wr b o cs t (0, 0) v (h.blk i hi)]
  exact h.setRow i hi _
theorem St.tail {w0 wr : World} {x : Nat × Array Value × TypeId} {L : List (Nat × Array Value × TypeId)} (h : St w0 wr (x :: L)) : St w0 wr L :=
  ⟨h.1, fun y hy => h.2.1 y (List.mem_cons_of_mem _ hy), (List.nodup_cons.1 (by simpa using h.2.2)).2⟩
theorem Cls.keepF {W w1 : World} (h : Cls W w1) {b : Nat} {cs : Array Value} {t : TypeId} {fr : Nat × Nat} (hk : Go.Proofs.Ytkfggilildiflab.blk W b = some (.cells cs t fr)) :
    Go.Proofs.Ytkfggilildiflab.blk w1 b = some (.cells cs t fr) ∧ (∀ o, w1.cell? ⟨b, o, none⟩ = cs[o]?) ∧ b < w1.heap.size := by
  have h1 : Go.Proofs.Ytkfggilildiflab.blk w1 b = some (.cells cs t fr) := (Below.block h b (blk_lt hk)).trans hk
  exact ⟨h1, fun o => cell_of_row w1 b o cs t _ h1, blk_lt h1⟩
/-- A block that came in is as it was. -/
theorem St.far {w0 wr : World} {L : List (Nat × Array Value × TypeId)} (h : St w0 wr L) {b : Nat} {cs : Array Value} {t : TypeId} {fr : Nat × Nat} (hb : Go.Proofs.Ytkfggilildiflab.blk w0 b = some (.cells cs t fr)) :
    Go.Proofs.Ytkfggilildiflab.blk wr b = some (.cells cs t fr) ∧ (∀ o, wr.cell? ⟨b, o, none⟩ = cs[o]?) ∧ b < w0.heap.size ∧ b < wr.heap.size ∧ ¬ b = wr.heap.size := by
  have h1 : Go.Proofs.Ytkfggilildiflab.blk wr b = some (.cells cs t fr) := (h.1.block b (blk_lt hb)).trans hb
  have h2 := blk_lt hb
  have h3 := h.1.size
  exact ⟨h1, fun o => cell_of_row wr b o cs t _ h1, h2, by omega, by omega⟩
theorem St.apart {w0 wr : World} {L : List (Nat × Array Value × TypeId)} (h : St w0 wr L) {b : Nat} (hb : b < w0.heap.size) (i : Nat) {g : Nat} {cs : Array Value} {t : TypeId} (hi : L[i]? = some (g, cs, t)) : ¬ b = g := by
  have := (h.2.1 _ (List.mem_of_getElem? hi)).1
  simp only at this
  omega
end Go.Proofs.Ytkfggilildiflab

namespace Go.Proofs.Ytkfggilildiflab
open Go.RowKit

/-- A slice of one's own (or nil), beside one's other blocks: its elements' cells. -/
structure Gr (w0 wr : World) (e size : Nat) (v : Value) (n : Nat) (xs : List Value) (L : List (Nat × Array Value × TypeId)) : Prop where
  own : wr.ownsRow w0.heap.size e size v n xs
  st : St w0 wr L
  apart : ∀ g, v.ownBlock = some g → g ∉ L.map (·.1)

theorem ownsRow_below {w w' : World} {base e size n : Nat} {v : Value} {xs : List Value} (h : w.ownsRow base e size v n xs) (hb : Below w.heap.size w w') : w'.ownsRow base e size v n xs := by
  refine ⟨h.1, ?_⟩
  rcases h.2 with h2 | ⟨g, cap, cur, h1, h2, h3, h4⟩
  · exact .inl h2
  · exact .inr ⟨g, cap, cur, h1, h2, (hb.block g (Array.getElem?_eq_some_iff.1 h3).1).trans h3, h4⟩
theorem Gr.nil {w0 wr : World} {e size : Nat} {L : List (Nat × Array Value × TypeId)} (h : St w0 wr L) : Gr w0 wr e size (.slice none 0 0) 0 [] L :=
  ⟨World.ownsRow_nil wr _ e size, h, fun g hg => by simp [Value.ownBlock] at hg⟩
/-- A new block, as a slice. -/
theorem Gr.of {w0 wr : World} {e size g n cap : Nat} {cs : Array Value} {L : List (Nat × Array Value × TypeId)} (h : St w0 wr ((g, cs, e) :: L)) (hn : n ≤ cap) (hc : cap ≤ maxLen) (hs : cs.size = cap * size) :
    Gr w0 wr e size (.slice (some ⟨g, 0, none⟩) n cap) n (cs.toList.take (n * size)) L := by
  have h0 := h.2.1 _ (List.mem_cons_self ..)
  refine ⟨⟨?_, .inr ⟨g, cap, cs, rfl, h0.1, h0.2, hn, hc, hs, rfl⟩⟩, h.tail, fun b hb => ?_⟩
  · rw [List.length_take, Array.length_toList, hs]
    exact Nat.min_eq_left (Nat.mul_le_mul_right _ hn)
  · simp only [Value.ownBlock, Option.some.injEq] at hb
    subst hb
    exact (List.nodup_cons.1 (by simpa using h.2.2)).1
theorem Gr.call {w0 wr w1 : World} {e size n : Nat} {v : Value} {xs : List Value} {L : List (Nat × Array Value × TypeId)} (h : Gr w0 wr e size v n xs L) (hb : Below wr.heap.size wr w1) : Gr w0 w1 e size v n xs L :=
  ⟨ownsRow_below h.own hb, h.st.call hb, h.apart⟩
theorem Gr.lt {w0 wr : World} {e size n g : Nat} {v : Value} {xs : List Value} {L : List (Nat × Array Value × TypeId)} (h : Gr w0 wr e size v n xs L) (hg : v.ownBlock = some g) : g < wr.heap.size := by
  rcases h.own.2 with ⟨rfl, _⟩ | ⟨g', cap, cur, rfl, _, h3, _⟩
  · simp [Value.ownBlock] at hg
  · simp only [Value.ownBlock, Option.some.injEq] at hg
    subst hg
    exact (Array.getElem?_eq_some_iff.1 h3).1
theorem Gr.alloc {w0 wr : World} {e size n : Nat} {v : Value} {xs : List Value} {L : List (Nat × Array Value × TypeId)} (h : Gr w0 wr e size v n xs L) (cs : Array Value) (t : TypeId) : Gr w0 (wr.alloc (.cells cs t)) e size v n xs ((wr.heap.size, cs, t) :: L) := by
  refine ⟨ownsRow_below h.own ((Below.refl _ _).alloc (Nat.le_refl _) _), h.st.alloc cs t, fun g hg hm => ?_⟩
  simp only [List.map_cons, List.mem_cons] at hm
  rcases hm with h1 | h1
  · have := h.lt hg; omega
  · exact h.apart g hg h1
theorem Gr.alloc' {w0 wr : World} {e size n m : Nat} {v : Value} {xs : List Value} {L : List (Nat × Array Value × TypeId)} {cs : Array Value} {t : TypeId} (h : Gr w0 wr e size v n xs L) (hm : m = wr.heap.size) : Gr w0 (wr.alloc (.cells cs t)) e size v n xs ((m, cs, t) :: L) := by
  subst hm; exact h.alloc cs t
theorem Gr.tail {w0 wr : World} {e size n : Nat} {v : Value} {xs : List Value} {x : Nat × Array Value × TypeId} {L : List (Nat × Array Value × TypeId)} (h : Gr w0 wr e size v n xs (x :: L)) : Gr w0 wr e size v n xs L :=
  ⟨h.own, h.st.tail, fun g hg hm => h.apart g hg (List.mem_cons_of_mem _ hm)⟩
theorem Gr.setRow {w0 wr : World} {e size n : Nat} {v : Value} {xs : List Value} {L : List (Nat × Array Value × TypeId)} (h : Gr w0 wr e size v n xs L) (i : Nat) {b : Nat} {cs : Array Value} {t : TypeId} (hi : L[i]? = some (b, cs, t)) (cs' : Array Value) :
    Gr w0 (wr.setRow b cs') e size v n xs (L.set i (b, cs', t)) := by
  have hil : i < L.length := (List.getElem?_eq_some_iff.1 hi).1
  have hk : (L.set i (b, cs', t)).map (·.1) = L.map (·.1) := by
    rw [List.map_set]
    have : b = (L.map (·.1))[i]'(by simpa using hil) := by
      have := (List.getElem?_eq_some_iff.1 hi).2
      simp [this]
    simp only [this, List.set_getElem_self]
  have hbL : b ∈ L.map (·.1) := List.mem_map.2 ⟨_, List.mem_of_getElem? hi, rfl⟩
  refine ⟨⟨h.own.1, ?_⟩, h.st.setRow i hi cs', fun g hg => by rw [hk]; exact h.apart g hg⟩
  rcases h.own.2 with h2 | ⟨g, cap, cur, rfl, h2, h3, h4⟩
  · exact .inl h2
  · have hne : g ≠ b := fun e => h.apart g rfl (e ▸ hbL)
    exact .inr ⟨g, cap, cur, rfl, h2, (setRow_other wr b g cs' hne).trans h3, h4⟩
theorem Gr.setCell {w0 wr : World} {e size n : Nat} {v : Value} {xs : List Value} {L : List (Nat × Array Value × TypeId)} (h : Gr w0 wr e size v n xs L) (i : Nat) {b : Nat} {cs : Array Value} {t : TypeId} (hi : L[i]? = some (b, cs, t)) (o : Nat) (x : Value) :
    Gr w0 (wr.setCell ⟨b, o, none⟩ x) e size v n xs (L.set i (b, cs.setIfInBounds o x, t)) := by
  rw [setCell_eq_setRow wr b o cs t (0, 0) x (h.st.blk i hi)]
  exact h.setRow i hi _
/-- The slice's own block, among the others. -/
theorem Gr.open {w0 wr : World} {e size n : Nat} {v : Value} {xs : List Value} {L : List (Nat × Array Value × TypeId)} (h : Gr w0 wr e size v n xs L) (hn : v ≠ .slice none 0 0) :
    ∃ g cap cur, v = .slice (some ⟨g, 0, none⟩) n cap ∧ n ≤ cap ∧ cap ≤ maxLen ∧ cur.size = cap * size ∧ cur.toList.take (n * size) = xs ∧ St w0 wr ((g, cur, e) :: L) := by
  rcases h.own.2 with ⟨rfl, _⟩ | ⟨g, cap, cur, rfl, h2, h3, h4, h5, h6, h7⟩
  · exact absurd rfl hn
  · refine ⟨g, cap, cur, rfl, h4, h5, h6, h7, h.st.1, fun x hx => ?_, ?_⟩
    · rcases List.mem_cons.1 hx with rfl | hx
      · exact ⟨h2, h3⟩
      · exact h.st.2.1 x hx
    · simp only [List.map_cons, List.nodup_cons]
      exact ⟨h.apart g rfl, h.st.2.2⟩
/-- A slice that a call has made: one's own. -/
theorem Gr.made {w0 wr w1 : World} {e size n : Nat} {v : Value} {xs : List Value} {L : List (Nat × Array Value × TypeId)} (h : St w0 wr L) (hb : Below wr.heap.size wr w1) (ho : w1.ownsRow wr.heap.size e size v n xs) : Gr w0 w1 e size v n xs L := by
  have hs := h.1.size
  refine ⟨⟨ho.1, ?_⟩, h.call hb, fun g hg hm => ?_⟩
  · rcases ho.2 with h2 | ⟨g, cap, cur, h1, h2, h3⟩
    · exact .inl h2
    · exact .inr ⟨g, cap, cur, h1, by omega, h3⟩
  · obtain ⟨x, hx, rfl⟩ := List.mem_map.1 hm
    have h1 := blk_lt (h.2.1 x hx).2
    rcases ho.2 with ⟨rfl, _⟩ | ⟨g, cap, cur, rfl, h2, h3⟩
    · simp [Value.ownBlock] at hg
    · simp only [Value.ownBlock, Option.some.injEq] at hg
      omega

/-- The value is a slice whose elements' cells these are. -/
def SrcAt (w : World) (v : Value) (size m : Nat) (news : List Value) : Prop :=
  news.length = m * size ∧ (∀ u ∈ news, u.oneCell' = true) ∧ ((v = .slice none 0 0 ∧ m = 0) ∨ ∃ ad c, v = .slice (some ad) m c ∧ ∀ j u, news[j]? = some u → w.cell? (ad.add j) = some u)

theorem SrcAt.own {w0 wr : World} {L : List (Nat × Array Value × TypeId)} (h : St w0 wr L) (i : Nat) {b : Nat} {cs : Array Value} {t : TypeId} (hi : L[i]? = some (b, cs, t)) {size m c : Nat} {news : List Value} (hl : news.length = m * size) (h1 : ∀ u ∈ news, u.oneCell' = true)
    (hc : ∀ (j : Nat) (u : Value), news[j]? = some u → cs[j]? = some u) : SrcAt wr (.slice (some ⟨b, 0, none⟩) m c) size m news :=
  ⟨hl, h1, .inr ⟨_, c, rfl, fun j u hj => by rw [add_addr, Nat.zero_add, (h.at i hi).2.1 j]; exact hc j u hj⟩⟩
/-- **append**, to a slice of one's own. -/
theorem wp_append {P : Program} {ops : Array Oper} {rest : List Oper} {o : Oper} {a : Act} {Q : Exit → Act → World → Prop} {w0 w : World} {t e size bytes : Nat} (hE : elemB P t e size bytes = true) (hgd : o.guard = none) {s x : Operand}
    (ho : o.op = .call { callee := .builtin .append, args := #[s, x], argTypes := #[t, t] }) {v : Value} {n : Nat} {xs : List Value} {L : List (Nat × Array Value × TypeId)} (hG : Gr w0 w e size v n xs L) (hs : a.eval s = v)
    {vx : Value} {m : Nat} {news : List Value} (hx : a.eval x = vx) (hsrc : SrcAt w vx size m news) (h63 : n + m ≤ maxLen) (hbytes : (n + m) * bytes ≤ 140737488355328)
    (h : ∀ v' w', Gr w0 w' e size v' (n + m) (xs ++ news) L → (v' = .slice none 0 0 ↔ v = .slice none 0 0 ∧ m = 0) → wpList P ops Q rest (a.put o.dst v') w') : wpList P ops Q (o :: rest) a w := by
  obtain ⟨ht, i, z, hi, hz, hsz, hby, hzs, hpos⟩ := elemB_iff hE
  obtain ⟨hl, h1, hv⟩ := hsrc
  rcases hv with ⟨rfl, rfl⟩ | ⟨ad, c, rfl, hnews⟩
  · refine wpList_append_own_none hgd s x t ho w0.heap.size e i size ht hi v n xs hs hG.own hx ?_
    have : news = [] := List.eq_nil_of_length_eq_zero (by simpa using hl)
    subst this
    exact h v w (by simpa using hG) (by simp)
  · refine wpList_append_own_at (w := w) hgd s x t ho w0.heap.size e i z size bytes ht hi hz hsz hby hzs hpos v n xs hs hG.own ad m c news hx hl hnews h1 h63 hbytes hG.st.1.size fun v' w' h2 h3 h4 h5 => ?_
    refine h v' w' ⟨h2, ?_, ?_⟩ h4
    · refine ⟨hG.st.1.trans ⟨h3.os, h3.tape, h3.output, h3.size, fun k hk => h3.block k (by have := hG.st.1.size; omega) (fun hk2 => ?_)⟩, fun y hy => ⟨(hG.st.2.1 y hy).1, ?_⟩, hG.st.2.2⟩
      · rcases hG.own.2 with ⟨rfl, _⟩ | ⟨g, cap, cur, rfl, hb, _⟩
        · simp [Value.ownBlock] at hk2
        · simp only [Value.ownBlock, Option.some.injEq] at hk2
          omega
      · have hy2 := (hG.st.2.1 y hy).2
        refine (h3.block _ (blk_lt hy2) (fun hk2 => ?_)).trans hy2
        exact hG.apart _ hk2.symm (List.mem_map.2 ⟨y, hy, rfl⟩)
    · intro g hg hm
      rcases h5 with h5 | h5
      · exact hG.apart g (h5 ▸ hg) hm
      · rw [h5] at hg
        simp only [Option.some.injEq] at hg
        obtain ⟨y, hy, he⟩ := List.mem_map.1 hm
        have := blk_lt (hG.st.2.1 y hy).2
        omega

/-! ### Rows of bytes as cells -/
def flat (ks : List (List UInt8)) : List Value := ks.flatMap (·.map bv)
theorem flat_len {n : Nat} : ∀ {ks : List (List UInt8)}, (∀ k ∈ ks, k.length = n) → (flat ks).length = ks.length * n
  | [], _ => by simp [flat]
  | k :: ks, h => by
    have h1 := flat_len (ks := ks) (fun k hk => h k (List.mem_cons_of_mem _ hk))
    have h2 := h k (List.mem_cons_self ..)
    simp only [flat, List.flatMap_cons, List.length_append, List.length_map, List.length_cons] at h1 ⊢
    rw [h1, h2, Nat.add_mul]; omega
theorem flat_get {n : Nat} : ∀ {ks : List (List UInt8)}, (∀ k ∈ ks, k.length = n) → ∀ {i j : Nat} {k : List UInt8} {x : UInt8}, ks[i]? = some k → k[j]? = some x → (flat ks)[i * n + j]? = some (bv x)
  | [], _, i, j, k, x, h1, _ => by simp at h1
  | k0 :: ks, h, i, j, k, x, h1, h2 => by
    have hk0 := h k0 (List.mem_cons_self ..)
    cases i with
    | zero =>
      simp only [List.getElem?_cons_zero, Option.some.injEq] at h1
      subst h1
      have hj : j < k0.length := (List.getElem?_eq_some_iff.1 h2).1
      simp only [flat, List.flatMap_cons, Nat.zero_mul, Nat.zero_add]
      rw [List.getElem?_append_left (by simpa using hj)]
      simp [h2]
    | succ i =>
      have ih := flat_get (ks := ks) (fun k hk => h k (List.mem_cons_of_mem _ hk)) (by simpa using h1) h2
      simp only [flat, List.flatMap_cons] at ih ⊢
      rw [List.getElem?_append_right (by rw [List.length_map, hk0, Nat.add_mul]; omega), List.length_map, hk0, show (i + 1) * n + j - n = i * n + j by rw [Nat.add_mul]; omega]
      exact ih
theorem flat_one (ks : List (List UInt8)) : ∀ u ∈ flat ks, u.oneCell' = true := by
  intro u hu
  simp only [flat, List.mem_flatMap, List.mem_map] at hu
  obtain ⟨k, _, x, _, rfl⟩ := hu
  rfl
theorem flat_app (a b : List (List UInt8)) : flat (a ++ b) = flat a ++ flat b := by simp [flat]
/-- Cells that begin with rows: one of them. -/
theorem row_of_flat {n : Nat} (hn : 0 < n) {ks : List (List UInt8)} (hk : ∀ k ∈ ks, k.length = n) {cur : Array Value} {m : Nat} (h : cur.toList.take m = flat ks) {i : Nat} {k : List UInt8} (hi : ks[i]? = some k) :
    i * n + n ≤ csz cur ∧ cut cur (i * n) n = bvs k := by
  have hkl := hk k (List.mem_of_getElem? hi)
  refine cut_of_cells hkl hn fun j x hj => ?_
  have := flat_get hk hi hj
  rw [← h, List.getElem?_take] at this
  split at this
  · simpa using this
  · cases this
theorem RowsAt.src {w : World} {n : Nat} {v : Value} {ks : List (List UInt8)} (h : RowsAt w n v ks) (hn : 0 < n) : SrcAt w v n ks.length (flat ks) := by
  obtain ⟨hk, p, c, rfl, hp, h3⟩ := h
  cases ks with
  | nil =>
    refine ⟨by simp [flat], flat_one _, ?_⟩
    cases p with
    | none => exact .inl ⟨by rw [hp rfl]; rfl, rfl⟩
    | some ad => exact .inr ⟨ad, c, rfl, fun j u hj => by simp [flat] at hj⟩
  | cons k0 ks =>
    refine ⟨flat_len hk, flat_one _, .inr ?_⟩
    obtain ⟨b, o, cs, t, e, rfl, hb, _, _⟩ := h3 0 k0 rfl
    refine ⟨_, c, rfl, fun j u hj => ?_⟩
    have hjl : j < (flat (k0 :: ks)).length := (List.getElem?_eq_some_iff.1 hj).1
    rw [flat_len hk] at hjl
    have hi : j / n < (k0 :: ks).length := Nat.div_lt_of_lt_mul (by rw [Nat.mul_comm]; exact hjl)
    have hmod : j % n < n := Nat.mod_lt _ hn
    have hki := List.getElem?_eq_getElem hi
    have hkl := hk _ (List.getElem_mem hi)
    have hx : ((k0 :: ks)[j / n])[j % n]? = some ((k0 :: ks)[j / n])[j % n] := List.getElem?_eq_getElem (by rw [hkl]; exact hmod)
    have hfl := flat_get hk hki hx
    have ej : j / n * n + j % n = j := by rw [Nat.mul_comm]; exact Nat.div_add_mod j n
    rw [ej, hj] at hfl
    obtain ⟨b2, o2, cs2, t2, e2, ha, hb2, hsz, hcut⟩ := h3 (j / n) _ hki
    simp only [Option.some.injEq, Addr.mk.injEq] at ha
    obtain ⟨rfl, rfl, _⟩ := ha
    have hce : (some (Obj.cells cs t e) : Option Obj) = some (.cells cs2 t2 e2) := hb.symm.trans hb2
    cases hce
    rw [add_addr, cell_of_row w b (o + j) cs t e hb]
    have h1 := bvs_at hx
    rw [← hcut] at h1
    have e1 : cs[o + j / n * n + j % n]? = some (bv ((k0 :: ks)[j / n])[j % n]) := by
      unfold cut at h1
      split at h1
      · rename_i hz; rw [hz.1, Nat.zero_add]; exact h1
      · rw [Array.getElem?_extract] at h1
        split at h1
        · exact h1
        · cases h1
    rw [show o + j / n * n + j % n = o + j by omega] at e1
    rw [e1, hfl]
end Go.Proofs.Ytkfggilildiflab

namespace Go.Proofs.Ytkfggilildiflab
open Go.ChangeShapes Go.WideShapes Go.ChangeAt Go.RowKit
theorem BytesAt.text {P : Program} {w : World} {src dst e : TypeId} {v : Value} {l : List UInt8} (h : BytesAt w v l) (hs : P.underlying src = some (.slice e)) (he : P.underlying e = some (.int .u8)) (hd : P.underlying dst = some .string) :
    (convert src dst v).run P w = .ok (.string ⟨l.toArray⟩) w := by
  obtain ⟨p, c, rfl, _, h0, h3⟩ := h
  cases p with
  | none =>
    have : l = [] := by
      by_cases hl : l = []
      · exact hl
      · obtain ⟨_, _, _, _, _, hp, _⟩ := h3 hl; cases hp
    subst this
    exact Lib.run_convert_nil_bytes w src dst e c hs he hd
  | some a =>
    refine run_convert_bytes_back w src dst e a c l hs he hd fun j hj => ?_
    obtain ⟨b, o, cs, t, fr, hp, hb, hx⟩ := h3 (by intro h; subst h; simp at hj)
    cases hp
    rw [add_addr, cell_of_row w b (o + j) cs t fr hb, hx j l[j] (List.getElem?_eq_getElem hj)]
    rfl
theorem bytesAt_of_gr {w0 wr : World} {e m : Nat} {v : Value} {l : List UInt8} {L : List (Nat × Array Value × TypeId)} (hm : l.length = m) (h : Gr w0 wr e 1 v m (l.map bv) L) : BytesAt wr v l := by
  subst hm
  rcases h.own.2 with ⟨rfl, h0⟩ | ⟨g, cap, cur, rfl, _, h3, h4, _, h6, h7⟩
  · have : l = [] := List.eq_nil_of_length_eq_zero h0
    subst this
    exact ⟨none, 0, rfl, Nat.le_refl _, fun _ => rfl, fun h => absurd rfl h⟩
  · refine ⟨_, cap, rfl, h4, (fun h => by cases h), fun _ => ⟨g, 0, cur, e, _, rfl, h3, fun i x hi => ?_⟩⟩
    have := congrArg (·[i]?) h7
    simp only [List.getElem?_take, List.getElem?_map, hi, Option.map_some] at this
    split at this
    · rw [Nat.zero_add]; simpa using this
    · cases this
theorem BytesAt.src {w : World} {v : Value} {l : List UInt8} (h : BytesAt w v l) : SrcAt w v 1 l.length (l.map bv) := by
  obtain ⟨p, c, rfl, _, h0, h3⟩ := h
  refine ⟨by simp, fun u hu => by obtain ⟨x, _, rfl⟩ := List.mem_map.1 hu; rfl, ?_⟩
  cases p with
  | none =>
    have : l = [] := by
      by_cases hl : l = []
      · exact hl
      · obtain ⟨_, _, _, _, _, hp, _⟩ := h3 hl; cases hp
    subst this
    exact .inl ⟨by rw [h0 rfl]; rfl, rfl⟩
  | some a =>
    refine .inr ⟨a, c, rfl, fun j u hj => ?_⟩
    have hjl : j < l.length := by have := (List.getElem?_eq_some_iff.1 hj).1; simpa using this
    obtain ⟨b, o, cs, t, fr, hp, hb, hx⟩ := h3 (by intro h; subst h; simp at hjl)
    cases hp
    rw [add_addr, cell_of_row w b (o + j) cs t fr hb, hx j l[j] (List.getElem?_eq_getElem hjl)]
    simp [List.getElem?_eq_getElem hjl] at hj
    rw [hj]

@[go_sem] theorem run_assert_errno (x : Value) (s : TypeId) (w : World) : (Instr.typeAssert (.iface 39 x) s 39 true).run Try.prog w = .ok (.tuple #[x, .bool true]) w := by
  unfold Instr.typeAssert
  simp [Sem.run_bind, run_underlying Try.underlying39]
set_option maxRecDepth 100000 in
set_option maxHeartbeats 1000000 in
theorem num_nil (w : World) : Calls Try.prog 36 #[.nilIface] w fun e w' => e = .returned (.int .i64 0) ∧ w = w' := by
  go_enter Try.func36, Try.ntmps36
  go_wp2
  go_ret
  exact ⟨rfl, rfl⟩
set_option maxRecDepth 100000 in
set_option maxHeartbeats 1000000 in
theorem num_err (n : Int) (hn : (n == 0) = false) (w : World) : Calls Try.prog 36 #[.iface 39 (.int .i64 n)] w fun e w' => e = .returned (.int .i64 n) ∧ w = w' := by
  go_enter Try.func36, Try.ntmps36
  go_wp2
  go_ret
  exact ⟨rfl, rfl⟩
set_option maxRecDepth 100000 in
set_option maxHeartbeats 1000000 in
theorem is_nil (k : Int) (w : World) : Calls Try.prog 17 #[.nilIface, .int .i64 k] w fun e w' => e = .returned (.bool (0 == k)) ∧ w = w' := by
  go_enter Try.func17, Try.ntmps17
  go_wp2_with fail
  with_reducible refine (num_nil _).mono ?_
  rintro e w1 ⟨rfl, rfl⟩
  go_wp2
  go_ret
  exact ⟨rfl, rfl⟩
set_option maxRecDepth 100000 in
set_option maxHeartbeats 1000000 in
theorem is_err (n k : Int) (hn : (n == 0) = false) (w : World) : Calls Try.prog 17 #[.iface 39 (.int .i64 n), .int .i64 k] w fun e w' => e = .returned (.bool (n == k)) ∧ w = w' := by
  have H := hid hn
  clear hn
  go_enter Try.func17, Try.ntmps17
  go_wp2_with fail
  with_reducible refine (num_err n H.out _).mono ?_
  rintro e w1 ⟨rfl, rfl⟩
  go_wp2
  go_ret
  exact ⟨rfl, rfl⟩

/-- **make([]T, 0, n)**: a slice of one's own. -/
theorem wp_make {P : Program} {ops : Array Oper} {rest : List Oper} {o : Oper} {a : Act} {Q : Exit → Act → World → Prop} {w0 w : World} {t e size bytes : Nat} (hE : elemB P t e size bytes = true) (hgd : o.guard = none) {l c : Operand}
    (ho : o.op = .makeSlice t l c) {L : List (Nat × Array Value × TypeId)} (hS : St w0 w L) {kl kc : IntKind} {C : Int} (n : Nat) (hl : a.eval l = .int kl 0) (hc : a.eval c = .int kc C) (hC : C = (n : Int)) (hb : bytes * n ≤ 281474976710656) (hn : n ≤ maxLen)
    (h : ∀ w', Gr w0 w' e size (.slice (some ⟨w.heap.size, 0, none⟩) 0 n) 0 [] L → wpList P ops Q rest (a.put o.dst (.slice (some ⟨w.heap.size, 0, none⟩) 0 n)) w') : wpList P ops Q (o :: rest) a w := by
  obtain ⟨ht, i, z, hi, hz, hsz, hby, _⟩ := elemB_iff hE
  refine wpList_make_own w hgd l c t ho w0.heap.size e i z size ht hi hz hsz kl kc C n hl hc hC (by rw [hby]; exact hb) hn hS.1.size fun w' h1 h2 => h w' ⟨h1, ?_, ?_⟩
  · refine ⟨hS.1.trans ⟨h2.os, h2.tape, h2.output, h2.size, fun k hk => h2.block k (by have := hS.1.size; omega) (fun h => by cases h)⟩, fun y hy => ⟨(hS.2.1 y hy).1, (h2.block _ (blk_lt (hS.2.1 y hy).2) (fun h => by cases h)).trans (hS.2.1 y hy).2⟩, hS.2.2⟩
  · intro g hg hm
    simp only [Value.ownBlock, Option.some.injEq] at hg
    obtain ⟨y, hy, he⟩ := List.mem_map.1 hm
    have := blk_lt (hS.2.1 y hy).2
    omega
/-- The slice literal of two bytes. -/
def buildSliceB (t : TypeId) (n : Nat) (parts : Array (Nat × Value)) : Sem Value := if n = n then Instr.buildSlice t n parts else Instr.buildSlice t n parts
@[go_sem ↓] theorem buildSlice_bytes (n : Nat) (parts : Array (Nat × Value)) : Instr.buildSlice 22 n parts = buildSliceB 22 n parts := by unfold buildSliceB; rw [if_pos rfl]
@[go_sem] theorem run_bytes2 (a b : Int) (w : World) : (buildSliceB 22 2 #[(0, .int .u8 a), (1, .int .u8 b)]).run Try.prog w = .ok (.slice (some ⟨w.heap.size, 0, none⟩) 2 2) (w.alloc (.cells #[.int .u8 a, .int .u8 b] 5)) := by
  have h : (Try.prog.info? 5).map (fun i => (i.zero, i.size)) = some (some (.int .u8 0), 1) := by kernel_rfl
  cases hi : Try.prog.info? 5 with
  | none => rw [hi] at h; cases h
  | some i =>
    rw [hi] at h
    simp only [Option.map_some, Option.some.injEq, Prod.mk.injEq] at h
    unfold buildSliceB
    rw [if_pos rfl]
    refine run_buildSlice w 22 5 2 _ _ i _ Try.underlying22 hi h.1 (by rw [h.2]; decide) (by rw [h.2]; decide) ?_
    rw [h.2]
    kernel_rfl
/-- A copy of bytes, two marks in its spare room. -/
def CopyOf (w : World) (l : List UInt8) (e : Ending) (w' : World) : Prop :=
  ∃ g cap cur, e = .returned (.slice (some ⟨g, 0, none⟩) l.length cap) ∧ w.heap.size ≤ g ∧ l.length + 2 ≤ cap ∧ cap ≤ maxLen ∧ blk w' g = some (.cells cur 5 (0, 0)) ∧ cur.size = cap ∧ cur.toList.take (l.length + 2) = (l ++ [165, 90]).map bv ∧ Below w.heap.size w w'

set_option maxRecDepth 100000 in
set_option maxHeartbeats 2000000 in
theorem copy_any (l : List UInt8) (v : Value) (w : World) (hv : BytesAt w v l) (hn : l.length ≤ 1000000000) : Calls Try.prog 14 #[v] w (CopyOf w l) := by
  obtain ⟨n, hnn⟩ : ∃ n, n = l.length := ⟨_, rfl⟩
  obtain ⟨p, c, hvs⟩ : ∃ p c, v = .slice p n c := by
    obtain ⟨p, c, h, _⟩ := hv; exact ⟨p, c, by rw [hnn]; exact h⟩
  subst hvs
  have HV := hid hv; have HN := hid hnn
  have hn2 : n ≤ 1000000000 := by omega
  have hc0 : (n : Int) + 2 = ((n + 2 : Nat) : Int) := by omega
  have HC0 := hid hc0
  have HA : ∀ w', Below w.heap.size w w' → SrcAt w' (.slice p n c) 1 n (l.map bv) := fun w' hb => by
    have := (hv.below hb).src
    rwa [← hnn] at this
  have HSRC := hid HA
  clear hv hnn hc0 hn HA
  go_enter Try.func14, Try.ntmps14
  go_wp2_with (first | (refine wp_make elem_22 rfl rfl (St.start w) (n + 2) rfl rfl HC0.out (by omega) (by unfold maxLen; omega) ?_; intro w1 hG1) | (at_builtin; refine wp_append elem_22 rfl rfl hG1 rfl rfl (HSRC.out _ hG1.st.below) (by unfold maxLen; omega) (by omega) ?_; clear hG1; intro v2 w2 hG2 hnil2; have HN2 := hid hnil2; clear hnil2) | (at_builtin; refine wp_append elem_22 rfl rfl (hG2.alloc #[.int .u8 165, .int .u8 90] 5) rfl rfl (SrcAt.own (m := 2) (news := [.int .u8 165, .int .u8 90]) (hG2.alloc #[.int .u8 165, .int .u8 90] 5).st 0 rfl rfl (by simp [Value.oneCell']) (fun j u hj => by simpa using hj)) (by unfold maxLen; omega) (by omega) ?_; clear hG2; intro v3 w3 hG3 hnil3; have hne : v3 ≠ .slice none 0 0 := (fun h => by have := (hnil3.1 h).2; omega); have hop := hG3.open hne; clear hnil3 hne hG3; obtain ⟨g, cap, cur, hv3, hle, hcm, hcs, htk, hS3⟩ := hop; rw [hv3]; clear hv3; have hle2 : (n : Int) ≤ (cap : Int) := (by omega); have HX := hid (And.intro hle (And.intro hcm (And.intro hcs htk))); clear hle hcm hcs htk))
  go_ret
  obtain ⟨h1, h2, h3, h4⟩ := HX.out
  have h0 := hS3.2.1 _ (List.mem_cons_self ..)
  rw [HN.out] at h1 h4 ⊢
  refine ⟨g, cap, cur, rfl, h0.1, by omega, h2, h0.2, by omega, ?_, hS3.below⟩
  rw [Nat.zero_add, Nat.mul_one, List.nil_append] at h4
  rw [h4, List.map_append]
  rfl

set_option maxRecDepth 100000 in
set_option maxHeartbeats 1000000 in
theorem kept_any (l : List UInt8) (g cap : Nat) (cur : Array Value) (v : Value) (w : World) (hg : blk w g = some (.cells cur 5 (0, 0))) (_hs : cur.size = cap) (hc : l.length + 2 ≤ cap) (ht : cur.toList.take (l.length + 2) = (l ++ [165, 90]).map bv) (hv : BytesAt w v l) (hn : l.length ≤ 1000000000) (_hcm : cap ≤ maxLen) :
    Calls Try.prog 19 #[.slice (some ⟨g, 0, none⟩) l.length cap, v] w fun e w' => e = .returned (.bool true) ∧ Below w.heap.size w w' := by
  have hmine : BytesAt w (.slice (some ⟨g, 0, none⟩) l.length cap) l := by
    refine ⟨_, cap, rfl, by omega, (fun h => by cases h), fun _ => ⟨g, 0, cur, _, _, rfl, hg, fun i x hi => ?_⟩⟩
    have h1 := congrArg (·[i]?) ht
    have hil : i < l.length := (List.getElem?_eq_some_iff.1 hi).1
    simp only [List.getElem?_take, List.getElem?_map] at h1
    rw [if_pos (by omega), List.getElem?_append_left hil, hi] at h1
    rw [Nat.zero_add]; simpa using h1
  have t1 := hmine.text (P := Try.prog) Try.underlying22 Try.underlying5 Try.underlying9
  have t2 := hv.text (P := Try.prog) Try.underlying22 Try.underlying5 Try.underlying9
  have m1 : cur[l.length]? = some (.int .u8 165) := by
    have h1 := congrArg (·[l.length]?) ht
    simp only [List.getElem?_take, List.getElem?_map] at h1
    rw [if_pos (by omega), List.getElem?_append_right (Nat.le_refl _), Nat.sub_self] at h1
    show _ = some (bv 165)
    simpa using h1
  have m2 : cur[l.length + 1]? = some (.int .u8 90) := by
    have h1 := congrArg (·[l.length + 1]?) ht
    simp only [List.getElem?_take, List.getElem?_map] at h1
    rw [if_pos (by omega), List.getElem?_append_right (by omega), show l.length + 1 - l.length = 1 by omega] at h1
    show _ = some (bv 90)
    simpa using h1
  have c1 : w.cell? ⟨g, l.length, none⟩ = some (.int .u8 165) := by rw [cell_of_row w g _ cur _ _ hg]; exact m1
  have c2 : w.cell? ⟨g, l.length + 1, none⟩ = some (.int .u8 90) := by rw [cell_of_row w g _ cur _ _ hg]; exact m2
  obtain ⟨n, hnn⟩ : ∃ n, n = l.length := ⟨_, rfl⟩
  obtain ⟨p, c, hvs⟩ : ∃ p c, v = .slice p n c := by
    obtain ⟨p, c, h, _⟩ := hv; exact ⟨p, c, by rw [hnn]; exact h⟩
  subst hvs
  rw [← hnn] at c1 c2 t1 hc hn ⊢
  clear hmine hv ht m1 m2 hnn hg _hs
  have f1 : (n : Int) + 2 ≤ (cap : Int) := by omega
  have f2 : ¬ (cap : Int) < (n : Int) + 2 := by omega
  have f3 : (n : Int) < (n : Int) + 2 := by omega
  have f4 : (n : Int) + 1 < (n : Int) + 2 := by omega
  have f5 : ((n : Int) + 2).toNat = n + 2 := by omega
  have f6 : ((n : Int) + 1).toNat = n + 1 := by omega
  have hB := Below.refl w.heap.size w
  unfold maxLen at _hcm
  go_enter Try.func19, Try.ntmps19
  go_wp2
  go_ret
  exact ⟨rfl, hB⟩
end Go.Proofs.Ytkfggilildiflab

namespace Go.Proofs.Ytkfggilildiflab
open Go.ChangeShapes Go.WideShapes Go.ChangeAt Go.RowKit

theorem len16 {l : List UInt8} (h : l.length = 16) : ∃ a0 a1 a2 a3 a4 a5 a6 a7 a8 a9 a10 a11 a12 a13 a14 a15 : UInt8, l = [a0, a1, a2, a3, a4, a5, a6, a7, a8, a9, a10, a11, a12, a13, a14, a15] := by
  match l, h with
  | [a0, a1, a2, a3, a4, a5, a6, a7, a8, a9, a10, a11, a12, a13, a14, a15], _ => exact ⟨a0, a1, a2, a3, a4, a5, a6, a7, a8, a9, a10, a11, a12, a13, a14, a15, rfl⟩
theorem len4 {l : List UInt8} (h : l.length = 4) : ∃ a0 a1 a2 a3 : UInt8, l = [a0, a1, a2, a3] := by
  match l, h with
  | [a0, a1, a2, a3], _ => exact ⟨a0, a1, a2, a3, rfl⟩
theorem zs16_is : zs 16 = [0, 0, 0, 0, 0, 0, 0, 0, 0, 0, 0, 0, 0, 0, 0, 0] := by unfold zs; rfl
theorem zs4_is : zs 4 = [0, 0, 0, 0] := by unfold zs; rfl

def shPart (l : List UInt8) : Nat → List UInt8
  | 0 => zs 16
  | k + 1 => (shPart l k).set k (l.getD ((k + 4 * (k % 4)) % 16) 0)
theorem shPart_len (l : List UInt8) (k : Nat) : (shPart l k).length = 16 := by
  induction k with
  | zero => exact zs_len 16
  | succ k ih => simp [shPart, ih]
theorem shPart_succ (l : List UInt8) (k : Nat) : shPart l (k + 1) = (shPart l k).set k (l.getD ((k + 4 * (k % 4)) % 16) 0) := rfl
theorem shPart_zero (l : List UInt8) : shPart l 0 = zs 16 := rfl

def unPart (l : List UInt8) : Nat → List UInt8
  | 0 => zs 16
  | k + 1 => (unPart l k).set ((k + 4 * (k % 4)) % 16) (l.getD k 0)
theorem unPart_len (l : List UInt8) (k : Nat) : (unPart l k).length = 16 := by
  induction k with
  | zero => exact zs_len 16
  | succ k ih => simp [unPart, ih]
theorem unPart_succ (l : List UInt8) (k : Nat) : unPart l (k + 1) = (unPart l k).set ((k + 4 * (k % 4)) % 16) (l.getD k 0) := rfl
theorem unPart_zero (l : List UInt8) : unPart l 0 = zs 16 := rfl

def tabPart (l : List UInt8) : Nat → List UInt8
  | 0 => zs 16
  | k + 1 => (tabPart l k).set (k % 4 * 4 + k / 4) (l.getD k 0)
theorem tabPart_len (l : List UInt8) (k : Nat) : (tabPart l k).length = 16 := by
  induction k with
  | zero => exact zs_len 16
  | succ k ih => simp [tabPart, ih]
theorem tabPart_succ (l : List UInt8) (k : Nat) : tabPart l (k + 1) = (tabPart l k).set (k % 4 * 4 + k / 4) (l.getD k 0) := rfl
theorem tabPart_zero (l : List UInt8) : tabPart l 0 = zs 16 := rfl

def untPart (l : List UInt8) : Nat → List UInt8
  | 0 => zs 16
  | k + 1 => (untPart l k).set k (l.getD (k % 4 * 4 + k / 4) 0)
theorem untPart_len (l : List UInt8) (k : Nat) : (untPart l k).length = 16 := by
  induction k with
  | zero => exact zs_len 16
  | succ k ih => simp [untPart, ih]
theorem untPart_succ (l : List UInt8) (k : Nat) : untPart l (k + 1) = (untPart l k).set k (l.getD (k % 4 * 4 + k / 4) 0) := rfl
theorem untPart_zero (l : List UInt8) : untPart l 0 = zs 16 := rfl

def rsPart (t : List UInt8) : Nat → List UInt8
  | 0 => zs 16
  | n + 1 => (rsPart t n).set (n / 4 * 4 + n % 4) (t.getD (n / 4 * 4 + (n % 4 + n / 4) % 4) 0)
theorem rsPart_len (l : List UInt8) (k : Nat) : (rsPart l k).length = 16 := by
  induction k with
  | zero => exact zs_len 16
  | succ k ih => simp [rsPart, ih]
theorem rsPart_succ (t : List UInt8) (r c : Nat) (hc : c < 4) : rsPart t (4 * r + (c + 1)) = (rsPart t (4 * r + c)).set (r * 4 + c) (t.getD (r * 4 + (c + r) % 4) 0) := by
  have e1 : (4 * r + c) / 4 = r := by omega
  have e2 : (4 * r + c) % 4 = c := by omega
  show rsPart t ((4 * r + c) + 1) = _
  simp only [rsPart, e1, e2]
theorem rsPart_zero (l : List UInt8) : rsPart l 0 = zs 16 := rfl


theorem shift_is {l : List UInt8} {a0 a1 a2 a3 a4 a5 a6 a7 a8 a9 a10 a11 a12 a13 a14 a15 : UInt8} (h : l = [a0, a1, a2, a3, a4, a5, a6, a7, a8, a9, a10, a11, a12, a13, a14, a15]) :
    shPart l 16 = [a0, a5, a10, a15, a4, a9, a14, a3, a8, a13, a2, a7, a12, a1, a6, a11] := by
  subst h; simp only [shPart, zs16_is]; rfl
theorem unshift_is {l : List UInt8} {a0 a1 a2 a3 a4 a5 a6 a7 a8 a9 a10 a11 a12 a13 a14 a15 : UInt8} (h : l = [a0, a1, a2, a3, a4, a5, a6, a7, a8, a9, a10, a11, a12, a13, a14, a15]) :
    unPart l 16 = [a0, a13, a10, a7, a4, a1, a14, a11, a8, a5, a2, a15, a12, a9, a6, a3] := by
  subst h; simp only [unPart, zs16_is]; rfl
theorem unshift_shift {l : List UInt8} (h : l.length = 16) : unPart (shPart l 16) 16 = l := by
  obtain ⟨a0, a1, a2, a3, a4, a5, a6, a7, a8, a9, a10, a11, a12, a13, a14, a15, rfl⟩ := len16 h
  rw [shift_is rfl, unshift_is rfl]
theorem shift_unshift {l : List UInt8} (h : l.length = 16) : shPart (unPart l 16) 16 = l := by
  obtain ⟨a0, a1, a2, a3, a4, a5, a6, a7, a8, a9, a10, a11, a12, a13, a14, a15, rfl⟩ := len16 h
  rw [unshift_is rfl, shift_is rfl]
theorem table_is {l : List UInt8} {a0 a1 a2 a3 a4 a5 a6 a7 a8 a9 a10 a11 a12 a13 a14 a15 : UInt8} (h : l = [a0, a1, a2, a3, a4, a5, a6, a7, a8, a9, a10, a11, a12, a13, a14, a15]) :
    tabPart l 16 = [a0, a4, a8, a12, a1, a5, a9, a13, a2, a6, a10, a14, a3, a7, a11, a15] := by
  subst h; simp only [tabPart, zs16_is]; rfl
theorem block_is {l : List UInt8} {a0 a1 a2 a3 a4 a5 a6 a7 a8 a9 a10 a11 a12 a13 a14 a15 : UInt8} (h : l = [a0, a1, a2, a3, a4, a5, a6, a7, a8, a9, a10, a11, a12, a13, a14, a15]) :
    untPart l 16 = [a0, a4, a8, a12, a1, a5, a9, a13, a2, a6, a10, a14, a3, a7, a11, a15] := by
  subst h; simp only [untPart, zs16_is]; rfl
theorem rows_is {l : List UInt8} {a0 a1 a2 a3 a4 a5 a6 a7 a8 a9 a10 a11 a12 a13 a14 a15 : UInt8} (h : l = [a0, a1, a2, a3, a4, a5, a6, a7, a8, a9, a10, a11, a12, a13, a14, a15]) :
    rsPart l 16 = [a0, a1, a2, a3, a5, a6, a7, a4, a10, a11, a8, a9, a15, a12, a13, a14] := by
  subst h; simp only [rsPart, zs16_is]; rfl
theorem shift_law {l : List UInt8} (h : l.length = 16) : shPart l 16 = untPart (rsPart (tabPart l 16) 16) 16 := by
  obtain ⟨a0, a1, a2, a3, a4, a5, a6, a7, a8, a9, a10, a11, a12, a13, a14, a15, rfl⟩ := len16 h
  rw [table_is rfl, rows_is rfl, block_is rfl, shift_is rfl]
attribute [irreducible] shPart unPart tabPart untPart rsPart
end Go.Proofs.Ytkfggilildiflab

namespace Go.Proofs.Ytkfggilildiflab
open Go.ChangeShapes Go.WideShapes Go.ChangeAt Go.RowKit
/-- So many cells, of which the first are these. -/
def Beg (cur : Array Value) (m : Nat) (xs : List Value) : Prop := cur.size = m ∧ cur.toList.take xs.length = xs
theorem Beg.write {cur : Array Value} {m : Nat} {xs : List Value} (h : Beg cur m xs) (news : List Value) (hm : xs.length + news.length ≤ m) : Beg ((cur.toList.take xs.length ++ (news ++ cur.toList.drop (xs.length + news.length))).toArray) m (xs ++ news) := by
  obtain ⟨h1, h2⟩ := h
  refine ⟨by simp; omega, ?_⟩
  rw [h2]
  show (xs ++ (news ++ _)).take (xs ++ news).length = xs ++ news
  rw [← List.append_assoc]
  exact List.take_left
theorem Beg.nil (cur : Array Value) (m : Nat) (h : cur.size = m) : Beg cur m [] := ⟨h, by simp⟩
theorem Beg.all {cur : Array Value} {m : Nat} {xs : List Value} (h : Beg cur m xs) (hm : xs.length = m) : cur = xs.toArray := by
  obtain ⟨h1, h2⟩ := h
  rw [List.take_of_length_le (by simp; omega)] at h2
  rw [← h2]
theorem Beg.get {cur : Array Value} {m : Nat} {xs : List Value} (h : Beg cur m xs) {i : Nat} {x : Value} (hi : xs[i]? = some x) : cur[i]? = some x := by
  have hil : i < xs.length := (List.getElem?_eq_some_iff.1 hi).1
  have := congrArg (·[i]?) h.2
  simp only [List.getElem?_take, if_pos hil, hi] at this
  simpa using this
theorem Beg.row {cur : Array Value} {m n : Nat} {ks : List (List UInt8)} (h : Beg cur m (flat ks)) (hn : 0 < n) (hk : ∀ k ∈ ks, k.length = n) {i : Nat} {k : List UInt8} (hi : ks[i]? = some k) : i * n + n ≤ csz cur ∧ cut cur (i * n) n = bvs k :=
  row_of_flat hn hk h.2 hi

theorem copy_one' {c : List UInt8} : ∀ v ∈ c.map bv, v.oneCell' = true := fun v hv => by
  obtain ⟨b, _, rfl⟩ := List.mem_map.1 hv
  rfl
/-- **append** within the capacity. -/
theorem wp_append_fits {P : Program} {ops : Array Oper} {rest : List Oper} {o : Oper} {a : Act} {Q : Exit → Act → World → Prop} {w0 w : World} {t e size bytes : Nat} (hE : elemB P t e size bytes = true) (hgd : o.guard = none) {s x : Operand}
    (ho : o.op = .call { callee := .builtin .append, args := #[s, x], argTypes := #[t, t] }) {L : List (Nat × Array Value × TypeId)} (hS : St w0 w L) (i : Nat) {g n cap : Nat} {cur : Array Value} (hi : L[i]? = some (g, cur, e)) (hs : a.eval s = .slice (some ⟨g, 0, none⟩) n cap)
    {ad : Addr} {m c : Nat} {xs news : List Value} (hB : Beg cur (cap * size) xs) (hxl : xs.length = n * size) (hx : a.eval x = .slice (some ad) m c) (hsrc : SrcAt w (.slice (some ad) m c) size m news) (hroom : n + m ≤ cap)
    (h : ∀ cur', Beg cur' (cap * size) (xs ++ news) → St w0 (w.setRow g cur') (L.set i (g, cur', e)) → wpList P ops Q rest (a.put o.dst (.slice (some ⟨g, 0, none⟩) (n + m) cap)) (w.setRow g cur')) : wpList P ops Q (o :: rest) a w := by
  obtain ⟨ht, ie, z, hie, hz, hsz, hby, hzs, hpos⟩ := elemB_iff hE
  obtain ⟨hl, h1, hv⟩ := hsrc
  rcases hv with ⟨h2, _⟩ | ⟨ad2, c2, h2, hnews⟩
  · cases h2
  · simp only [Value.slice.injEq, Option.some.injEq] at h2
    obtain ⟨rfl, _, rfl⟩ := h2
    have hfit : xs.length + news.length ≤ cap * size := by rw [hxl, hl, ← Nat.add_mul]; exact Nat.mul_le_mul_right _ hroom
    refine wpList_plain hgd fun K hK => ?_
    have hrun := run_append_room (P := P) w t o.type e ie ht hie g n cap cur (hS.blk i hi) ad m c news (by rw [hsz]; exact hl) hnews h1 hroom (by rw [hsz, ← hxl, hB.1]; exact hfit)
    rw [hsz, ← hxl, List.append_assoc] at hrun
    have hB2 := hB.write news hfit
    have hS2 := hS.setRow i hi ((cur.toList.take xs.length ++ (news ++ cur.toList.drop (xs.length + news.length))).toArray)
    unfold Oper.wp
    simp [execOp, ho, resolve, invoke, builtin, hs, hx, hrun, Result.andThen]
    exact hK _ _ (h _ hB2 hS2)

/-- **make([]T, n)**. -/
theorem wp_make_full {P : Program} {ops : Array Oper} {rest : List Oper} {o : Oper} {a : Act} {Q : Exit → Act → World → Prop} {w0 w : World} {t e size bytes : Nat} (hE : elemB P t e size bytes = true) (hgd : o.guard = none) {l c : Operand}
    (ho : o.op = .makeSlice t l c) {L : List (Nat × Array Value × TypeId)} (hS : St w0 w L) {kl kc : IntKind} {N C : Int} (n : Nat) (hl : a.eval l = .int kl N) (hc : a.eval c = .int kc C) (hN : N = (n : Int)) (hC : C = (n : Int)) (hb : bytes * n ≤ 281474976710656) (hn : n ≤ maxLen)
    (h : ∀ w' cur, cur.size = n * size → (∀ z, (P.info? e).bind (·.zero) = some z → cur.toList = (madeCells z.cells (n * size)).toList) → St w0 w' ((w.heap.size, cur, e) :: L) → wpList P ops Q rest (a.put o.dst (.slice (some ⟨w.heap.size, 0, none⟩) n n)) w') : wpList P ops Q (o :: rest) a w := by
  obtain ⟨ht, i, z, hi, hz, hsz, hby, _⟩ := elemB_iff hE
  refine wpList_make_full w hgd l c t ho w0.heap.size e i z size ht hi hz hsz kl kc N C n hl hc hN hC (by rw [hby]; exact hb) hn hS.1.size fun w' h1 h2 => ?_
  rcases h1.2 with ⟨h3, _⟩ | ⟨g, cap, cur, h3, h4, h5, h6, h7, h8, h9⟩
  · cases h3
  · simp only [Value.slice.injEq, Option.some.injEq, Addr.mk.injEq, true_and] at h3
    obtain ⟨⟨rfl, _⟩, rfl⟩ := h3
    rw [List.take_of_length_le (by simp; omega)] at h9
    refine h w' cur h8 (fun z' hz' => ?_) ⟨hS.1.trans ⟨h2.os, h2.tape, h2.output, h2.size, fun k hk => h2.block k (by have := hS.1.size; omega) (fun h => by cases h)⟩, fun y hy => ?_, ?_⟩
    · rw [hi] at hz'
      simp only [Option.bind_some, hz, Option.some.injEq] at hz'
      subst hz'
      exact h9
    · rcases List.mem_cons.1 hy with rfl | hy
      · exact ⟨h4, h5⟩
      · exact ⟨(hS.2.1 y hy).1, (h2.block _ (blk_lt (hS.2.1 y hy).2) (fun h => by cases h)).trans (hS.2.1 y hy).2⟩
    · simp only [List.map_cons, List.nodup_cons]
      refine ⟨fun hm => ?_, hS.2.2⟩
      obtain ⟨y, hy, he⟩ := List.mem_map.1 hm
      have := blk_lt (hS.2.1 y hy).2
      omega
theorem Gr.cells0 {w0 wr : World} {e size cap g : Nat} {L : List (Nat × Array Value × TypeId)} (h : Gr w0 wr e size (.slice (some ⟨g, 0, none⟩) 0 cap) 0 [] L) : ∃ cur, cur.size = cap * size ∧ St w0 wr ((g, cur, e) :: L) := by
  obtain ⟨g2, cap2, cur, hv, _, _, hs, _, hS⟩ := h.open (fun h => by cases h)
  simp only [Value.slice.injEq, Option.some.injEq, Addr.mk.injEq, true_and] at hv
  obtain ⟨⟨rfl, _⟩, rfl⟩ := hv
  exact ⟨cur, hs, hS⟩

/-- One of one's blocks, brought to the front. -/
theorem front_mem {α : Type} : ∀ {L : List α} {i : Nat} {x : α}, L[i]? = some x → ∀ y, y ∈ x :: L.eraseIdx i ↔ y ∈ L
  | [], i, x, h, y => by simp at h
  | a :: L, 0, x, h, y => by simp at h; subst h; simp
  | a :: L, i + 1, x, h, y => by
    have ih := front_mem (L := L) (i := i) (x := x) (by simpa using h) y
    simp only [List.eraseIdx_cons_succ, List.mem_cons] at ih ⊢
    constructor
    · rintro (h1 | h1 | h1)
      · exact .inr (ih.1 (.inl h1))
      · exact .inl h1
      · exact .inr (ih.1 (.inr h1))
    · rintro (h1 | h1)
      · exact .inr (.inl h1)
      · rcases ih.2 h1 with h2 | h2
        · exact .inl h2
        · exact .inr (.inr h2)
theorem front_nodup : ∀ {L : List (Nat × Array Value × TypeId)} {i : Nat} {x : Nat × Array Value × TypeId}, L[i]? = some x → (L.map (·.1)).Nodup → ((x :: L.eraseIdx i).map (·.1)).Nodup
  | [], i, x, h, _ => by simp at h
  | a :: L, 0, x, h, hn => by simp at h; subst h; simpa using hn
  | a :: L, i + 1, x, h, hn => by
    have hx : L[i]? = some x := by simpa using h
    simp only [List.map_cons, List.nodup_cons] at hn
    have ih := front_nodup (L := L) hx hn.2
    simp only [List.map_cons, List.nodup_cons, List.eraseIdx_cons_succ] at ih ⊢
    have hne : x.1 ≠ a.1 := fun e => hn.1 (e ▸ List.mem_map.2 ⟨x, List.mem_of_getElem? hx, rfl⟩)
    refine ⟨?_, ?_, ih.2⟩
    · simp only [List.mem_cons, not_or]
      exact ⟨hne, ih.1⟩
    · intro hm
      obtain ⟨y, hy, he⟩ := List.mem_map.1 hm
      exact hn.1 (List.mem_map.2 ⟨y, (front_mem hx y).1 (List.mem_cons_of_mem _ hy), he⟩)
theorem St.front {w0 wr : World} {L : List (Nat × Array Value × TypeId)} (h : St w0 wr L) (i : Nat) {x : Nat × Array Value × TypeId} (hi : L[i]? = some x) : St w0 wr (x :: L.eraseIdx i) :=
  ⟨h.1, fun y hy => h.2.1 y ((front_mem hi y).1 hy), front_nodup hi h.2.2⟩

/-- **append** to a slice of one's own, its block among the others. -/
theorem wp_append_at {P : Program} {ops : Array Oper} {rest : List Oper} {o : Oper} {a : Act} {Q : Exit → Act → World → Prop} {w0 w : World} {t e size bytes : Nat} (hE : elemB P t e size bytes = true) (hgd : o.guard = none) {s x : Operand}
    (ho : o.op = .call { callee := .builtin .append, args := #[s, x], argTypes := #[t, t] }) {L : List (Nat × Array Value × TypeId)} (hS : St w0 w L) (i : Nat) {g n cap : Nat} {cur : Array Value} (hi : L[i]? = some (g, cur, e)) (hs : a.eval s = .slice (some ⟨g, 0, none⟩) n cap)
    {xs : List Value} (hB : Beg cur (cap * size) xs) (hxl : xs.length = n * size) (hnc : n ≤ cap) (hcm : cap ≤ maxLen) {vx : Value} {m : Nat} {news : List Value} (hx : a.eval x = vx) (hsrc : SrcAt w vx size m news) (h63 : n + m ≤ maxLen) (hbytes : (n + m) * bytes ≤ 140737488355328)
    (h : ∀ g' cap' cur' w', Beg cur' (cap' * size) (xs ++ news) → n + m ≤ cap' → cap' ≤ maxLen → St w0 w' ((g', cur', e) :: L.eraseIdx i) → wpList P ops Q rest (a.put o.dst (.slice (some ⟨g', 0, none⟩) (n + m) cap')) w') : wpList P ops Q (o :: rest) a w := by
  have hG := Gr.of (size := size) (n := n) (cap := cap) (hS.front i hi) hnc hcm hB.1
  rw [← hxl, hB.2] at hG
  refine wp_append hE hgd ho hG hs hx hsrc h63 hbytes fun v' w' hG' hnil => ?_
  obtain ⟨g', cap', cur', hv, h1, h2, h3, h4, h5⟩ := hG'.open (fun hv => by have := (hnil.1 hv).1; cases this)
  rw [hv]
  have hl := hG'.own.1
  exact h g' cap' cur' w' ⟨h3, by rw [hl]; exact h4⟩ h1 h2 h5
/-- **append** to a nil slice, at least one element. -/
theorem wp_append_nil {P : Program} {ops : Array Oper} {rest : List Oper} {o : Oper} {a : Act} {Q : Exit → Act → World → Prop} {w0 w : World} {t e size bytes : Nat} (hE : elemB P t e size bytes = true) (hgd : o.guard = none) {s x : Operand}
    (ho : o.op = .call { callee := .builtin .append, args := #[s, x], argTypes := #[t, t] }) {L : List (Nat × Array Value × TypeId)} (hS : St w0 w L) (hs : a.eval s = .slice none 0 0)
    {vx : Value} {m : Nat} (hm : 0 < m) {news : List Value} (hx : a.eval x = vx) (hsrc : SrcAt w vx size m news) (h63 : m ≤ maxLen) (hbytes : m * bytes ≤ 140737488355328)
    (h : ∀ g' cap' cur' w', Beg cur' (cap' * size) news → m ≤ cap' → cap' ≤ maxLen → St w0 w' ((g', cur', e) :: L) → wpList P ops Q rest (a.put o.dst (.slice (some ⟨g', 0, none⟩) m cap')) w') : wpList P ops Q (o :: rest) a w := by
  refine wp_append hE hgd ho (Gr.nil (e := e) (size := size) hS) hs hx hsrc (by omega) (by rw [Nat.zero_add]; exact hbytes) fun v' w' hG' hnil => ?_
  rw [Nat.zero_add, List.nil_append] at hG'
  obtain ⟨g', cap', cur', hv, h1, h2, h3, h4, h5⟩ := hG'.open (fun hv => by have := (hnil.1 hv).2; omega)
  rw [hv]
  have hl := hG'.own.1
  exact h g' cap' cur' w' ⟨h3, by rw [hl]; exact h4⟩ h1 h2 h5

/-- A slice literal of one word. -/
def buildSliceW (t : TypeId) (n : Nat) (parts : Array (Nat × Value)) : Sem Value := if n = n then Instr.buildSlice t n parts else Instr.buildSlice t n parts
@[go_sem ↓] theorem buildSlice_words (n : Nat) (parts : Array (Nat × Value)) : Instr.buildSlice 163 n parts = buildSliceW 163 n parts := by unfold buildSliceW; rw [if_pos rfl]
@[go_sem] theorem run_words1 (l : List UInt8) (h : csz (bvs l) = 4) (w : World) : (buildSliceW 163 1 #[(0, .agg (bvs l))]).run Try.prog w = .ok (.slice (some ⟨w.heap.size, 0, none⟩) 1 1) (w.alloc (.cells (bvs l) 164)) := by
  have h0 : (Try.prog.info? 164).map (fun i => (i.zero, i.size)) = some (some (.agg (bvs (zs 4))), 4) := by rw [← zs4]; kernel_rfl
  cases hi : Try.prog.info? 164 with
  | none => rw [hi] at h0; cases h0
  | some i =>
    rw [hi] at h0
    simp only [Option.map_some, Option.some.injEq, Prod.mk.injEq] at h0
    unfold buildSliceW
    rw [if_pos rfl]
    refine run_buildSlice w 163 164 1 _ _ i _ Try.underlying163 hi h0.1 (by rw [h0.2]; decide) (by rw [h0.2]; decide) ?_
    rw [h0.2]
    rw [csz_bvs] at h
    obtain ⟨a, b, c, d, rfl⟩ := len4 h
    rw [← zs4]
    kernel_rfl
end Go.Proofs.Ytkfggilildiflab

namespace Go.Proofs.Ytkfggilildiflab
open Go.RowKit

@[go_sem] theorem wide_fn (f : FuncId) : Fence.wide.fn f = True := rfl
@[go_sem] theorem wide_fn_r (l : Nat) (f : FuncId) : (Fence.wide.inRound l).fn f = True := rfl
@[go_sem] theorem wide_depth : Fence.wide.depth = none := rfl
@[go_sem] theorem wide_depth_r (l : Nat) : (Fence.wide.inRound l).depth = none := rfl
/-- These blocks hold these objects, and no block stands twice. -/
def Holds (W : World) (L : List (Nat × Obj)) : Prop := (∀ x ∈ L, W.heap[x.1]? = some x.2) ∧ (L.map (·.1)).Nodup
/-- Nothing that lay has turned, but for these blocks. -/
structure Kept (B : List Nat) (W W' : World) : Prop where
  os : W'.os = W.os
  tape : W'.tape = W.tape
  output : W'.output = W.output
  size : W.heap.size ≤ W'.heap.size
  block : ∀ k, k < W.heap.size → k ∉ B → W'.heap[k]? = W.heap[k]?
theorem Kept.refl (B : List Nat) (W : World) : Kept B W W := ⟨rfl, rfl, rfl, Nat.le_refl _, fun _ _ _ => rfl⟩
theorem Kept.of_below {B : List Nat} {W W' : World} (h : Below W.heap.size W W') : Kept B W W' := ⟨h.os, h.tape, h.output, h.size, fun k hk _ => h.block k hk⟩
theorem Kept.trans {B C : List Nat} {W W1 W2 : World} (h : Kept B W W1) (k : Kept C W1 W2) (hc : ∀ b ∈ C, b ∈ B ∨ W.heap.size ≤ b) : Kept B W W2 :=
  ⟨k.os.trans h.os, k.tape.trans h.tape, k.output.trans h.output, Nat.le_trans h.size k.size, fun b hb hn => by
    have h1 := h.size
    refine (k.block b (by omega) (fun hm => ?_)).trans (h.block b hb hn)
    rcases hc b hm with h | h
    · exact hn h
    · omega⟩
theorem Kept.below {B : List Nat} {W W' : World} {n : Nat} (h : Kept B W W') (hn : n ≤ W.heap.size) (hB : ∀ b ∈ B, n ≤ b) : Below n W W' :=
  ⟨h.os, h.tape, h.output, h.size, fun k hk => h.block k (by omega) (fun hm => by have := hB k hm; omega)⟩
/-- A step of the loop: its blocks behind it; all else lies as it lay; a new one of them is a new block. -/
structure Rd (L : List (Nat × Obj)) (W : World) (L' : List (Nat × Obj)) (W' : World) : Prop where
  holds : Holds W' L'
  kept : Kept (L.map (·.1)) W W'
  fresh : ∀ x ∈ L', x.1 ∈ L.map (·.1) ∨ W.heap.size ≤ x.1
theorem Rd.refl {L : List (Nat × Obj)} {W : World} (h : Holds W L) : Rd L W L W := ⟨h, .refl _ _, fun x hx => .inl (List.mem_map.2 ⟨x, hx, rfl⟩)⟩
theorem Rd.trans {L L1 L2 : List (Nat × Obj)} {W W1 W2 : World} (h : Rd L W L1 W1) (k : Rd L1 W1 L2 W2) : Rd L W L2 W2 := by
  have hs := h.kept.size
  refine ⟨k.holds, h.kept.trans k.kept (fun b hb => ?_), fun x hx => ?_⟩
  · obtain ⟨y, hy, rfl⟩ := List.mem_map.1 hb
    exact h.fresh y hy
  · rcases k.fresh x hx with hm | hm
    · obtain ⟨y, hy, he⟩ := List.mem_map.1 hm
      rw [← he]; exact h.fresh y hy
    · exact .inr (by omega)
theorem Holds.lt {W : World} {L : List (Nat × Obj)} (h : Holds W L) {x : Nat × Obj} (hx : x ∈ L) : x.1 < W.heap.size := (Array.getElem?_eq_some_iff.1 (h.1 x hx)).1
theorem Holds.kept {W W' : World} {L : List (Nat × Obj)} {B : List Nat} (h : Holds W L) (k : Kept B W W') (hB : ∀ x ∈ L, x.1 ∉ B) : Holds W' L :=
  ⟨fun x hx => (k.block _ (h.lt hx) (hB x hx)).trans (h.1 x hx), h.2⟩
/-- What calls lay: the loop's blocks are as they were. -/
theorem Rd.call {L : List (Nat × Obj)} {W W' : World} (h : Holds W L) (hb : Below W.heap.size W W') : Rd L W L W' :=
  ⟨h.kept (B := []) (Kept.of_below hb) (fun _ _ => List.not_mem_nil), Kept.of_below hb, fun x hx => .inl (List.mem_map.2 ⟨x, hx, rfl⟩)⟩
/-- A block that is none of the loop's is as it was. -/
theorem Rd.far {L L' : List (Nat × Obj)} {W W' : World} (h : Rd L W L' W') {b : Nat} {o : Obj} (hb : W.heap[b]? = some o) (hn : b ∉ L.map (·.1)) : W'.heap[b]? = some o ∧ b ∉ L'.map (·.1) := by
  have hlt := (Array.getElem?_eq_some_iff.1 hb).1
  refine ⟨(h.kept.block b hlt hn).trans hb, fun hm => ?_⟩
  obtain ⟨x, hx, he⟩ := List.mem_map.1 hm
  rcases h.fresh x hx with h1 | h1
  · exact hn (he ▸ h1)
  · omega

/-- One block more of one's own, laid in front: the iterator's own, which no round may turn. -/
theorem Rd.farCells {L L' : List (Nat × Obj)} {W W' : World} (h : Rd L W L' W') {b : Nat} {cs : Array Value} {t : TypeId} {fr : Nat × Nat} (hb : blk W b = some (.cells cs t fr)) (hn : b ∉ L.map (·.1)) :
    blk W' b = some (.cells cs t fr) ∧ (∀ o, W'.cell? ⟨b, o, none⟩ = cs[o]?) ∧ b < W'.heap.size := by
  have h1 : blk W' b = some (.cells cs t fr) := (h.far hb hn).1
  exact ⟨h1, fun o => cell_of_row W' b o cs t _ h1, blk_lt h1⟩

/-- **An iterator's contract.** It hands 'els 0', 'els 1', .. to the rounds, so many if N says how many, else without an end. R: blocks that it reads. -/
def IterAt (P : Program) (gf : Nat) (lb : Array Value) (els : Nat → Array Value) (N : Option Nat) (R : List Nat) (W0 : World) : Prop :=
  ∀ (l : Nat) (J : Nat → List (Nat × Obj) → Prop) (Jx : List (Nat × Obj) → Prop) (M : Nat) (W : World) (L0 : List (Nat × Obj)),
    Below W0.heap.size W0 W → (∀ b ∈ R, b ∉ L0.map (·.1)) → (N = none → ∀ k L, J k L → k < M) → J 0 L0 → Holds W L0 →
    (∀ k L W1, J k L → Rd L0 W L W1 → (∀ n, N = some n → k < n) →
      YieldAt Fence.wide 0 P l (els k) W1 fun e W2 => ∃ L2, Rd L W1 L2 W2 ∧ ((e = .returned (.bool true) ∧ J (k + 1) L2) ∨ (e = .returned (.bool false) ∧ Jx L2))) →
    Calls P gf (#[.func (.yield l) #[] #[]] ++ lb) W fun e W' => (∃ v, e = .returned v) ∧ ∃ L', Rd L0 W L' W' ∧ ((∃ n, N = some n ∧ J n L') ∨ Jx L')

/-- One's own blocks of cells, as objects. -/
def objs (L : List (Nat × Array Value × TypeId)) : List (Nat × Obj) := L.map fun x => (x.1, .cells x.2.1 x.2.2)
theorem objs_keys (L : List (Nat × Array Value × TypeId)) : (objs L).map (·.1) = L.map (·.1) := by simp [objs, Function.comp]
theorem Holds.cells {W : World} {L : List (Nat × Array Value × TypeId)} (h : Holds W (objs L)) (i : Nat) {b : Nat} {cs : Array Value} {t : TypeId} (hi : L[i]? = some (b, cs, t)) :
    blk W b = some (.cells cs t (0, 0)) ∧ (∀ o, W.cell? ⟨b, o, none⟩ = cs[o]?) ∧ (∀ o, W.frozen? ⟨b, o, none⟩ = false) ∧ b < W.heap.size ∧ ¬ b = W.heap.size := by
  have h1 : blk W b = some (.cells cs t (0, 0)) := h.1 (b, .cells cs t) (List.mem_map.2 ⟨_, List.mem_of_getElem? hi, rfl⟩)
  have h2 := blk_lt h1
  exact ⟨h1, fun o => cell_of_row W b o cs t _ h1, fun o => frozen_of_row W b o cs t h1, h2, by omega⟩

/-- A round's walk, from where it began: its blocks (L0 then, L now). -/
structure In (L0 : List (Nat × Array Value × TypeId)) (W0 : World) (L : List (Nat × Array Value × TypeId)) (W : World) : Prop where
  rd : Rd (objs L0) W0 (objs L) W
theorem In.start {L : List (Nat × Array Value × TypeId)} {W : World} (h : Holds W (objs L)) : In L W L W := ⟨.refl h⟩
theorem In.at {L0 L : List (Nat × Array Value × TypeId)} {W0 W : World} (h : In L0 W0 L W) (i : Nat) {b : Nat} {cs : Array Value} {t : TypeId} (hi : L[i]? = some (b, cs, t)) :
    blk W b = some (.cells cs t (0, 0)) ∧ (∀ o, W.cell? ⟨b, o, none⟩ = cs[o]?) ∧ (∀ o, W.frozen? ⟨b, o, none⟩ = false) ∧ b < W.heap.size ∧ ¬ b = W.heap.size := h.rd.holds.cells i hi
theorem In.call {L0 L : List (Nat × Array Value × TypeId)} {W0 W W' : World} (h : In L0 W0 L W) (hb : Below W.heap.size W W') : In L0 W0 L W' := ⟨h.rd.trans (.call h.rd.holds hb)⟩
theorem In.alloc {L0 L : List (Nat × Array Value × TypeId)} {W0 W : World} (h : In L0 W0 L W) (cs : Array Value) (t : TypeId) : In L0 W0 ((W.heap.size, cs, t) :: L) (W.alloc (.cells cs t)) := by
  refine ⟨h.rd.trans ⟨⟨fun x hx => ?_, ?_⟩, Kept.of_below ((Below.refl _ _).alloc (Nat.le_refl _) _), fun x hx => ?_⟩⟩
  · rcases List.mem_cons.1 hx with rfl | hx
    · exact World.alloc_heap_new _ _
    · exact (Below.heap_alloc _ _ _ (h.rd.holds.lt hx)).trans (h.rd.holds.1 x hx)
  · have := h.rd.holds.2
    rw [objs_keys] at this ⊢
    simp only [List.map_cons, List.nodup_cons]
    refine ⟨fun hm => ?_, this⟩
    obtain ⟨x, hx, he⟩ := List.mem_map.1 hm
    have := h.rd.holds.lt (x := (x.1, .cells x.2.1 x.2.2)) (List.mem_map.2 ⟨x, hx, rfl⟩)
    simp only at this
    omega
  · rcases List.mem_cons.1 hx with rfl | hx
    · exact .inr (Nat.le_refl _)
    · exact .inl (List.mem_map.2 ⟨x, hx, rfl⟩)
theorem In.alloc' {L0 L : List (Nat × Array Value × TypeId)} {W0 W : World} {n : Nat} {cs : Array Value} {t : TypeId} (h : In L0 W0 L W) (hn : n = W.heap.size) : In L0 W0 ((n, cs, t) :: L) (W.alloc (.cells cs t)) := by
  subst hn; exact h.alloc cs t
theorem In.setRow {L0 L : List (Nat × Array Value × TypeId)} {W0 W : World} (h : In L0 W0 L W) (i : Nat) {b : Nat} {cs : Array Value} {t : TypeId} (hi : L[i]? = some (b, cs, t)) (cs' : Array Value) : In L0 W0 (L.set i (b, cs', t)) (W.setRow b cs') := by
  have hil : i < L.length := (List.getElem?_eq_some_iff.1 hi).1
  have hm := h.at i hi
  have hk : (L.set i (b, cs', t)).map (·.1) = L.map (·.1) := by
    rw [List.map_set]
    have : b = (L.map (·.1))[i]'(by simpa using hil) := by
      have := (List.getElem?_eq_some_iff.1 hi).2
      simp [this]
    simp only [this, List.set_getElem_self]
  have hnd : (L.map (·.1)).Nodup := by have := h.rd.holds.2; rwa [objs_keys] at this
  refine ⟨h.rd.trans ⟨⟨fun x hx => ?_, ?_⟩, ⟨rfl, rfl, rfl, by simp, fun k hk2 hn => setRow_other W b k cs' (fun e => ?_)⟩, fun x hx => .inl ?_⟩⟩
  · obtain ⟨y, hy, rfl⟩ := List.mem_map.1 hx
    obtain ⟨j, hj, rfl⟩ := List.getElem_of_mem hy
    simp only [List.length_set] at hj
    rw [List.getElem_set]
    split
    · exact blk_setRow_same hm.1 _
    · rename_i hij
      have h2 := h.at j (List.getElem?_eq_getElem hj)
      refine (setRow_other W b _ cs' (fun he => ?_)).trans h2.1
      have e1 : (L.map (·.1))[i]'(by simpa using hil) = b := by
        have := (List.getElem?_eq_some_iff.1 hi).2
        simp [this]
      have e2 : (L.map (·.1))[j]'(by simpa using hj) = b := by simp only [List.getElem_map]; exact he
      exact hij ((List.getElem_inj hnd).1 (e1.trans e2.symm))
  · rw [objs_keys, hk]; exact hnd
  · subst e; exact hn (by rw [objs_keys]; exact List.mem_map.2 ⟨_, List.mem_of_getElem? hi, rfl⟩)
  · have : x.1 ∈ (objs (L.set i (b, cs', t))).map (·.1) := List.mem_map.2 ⟨x, hx, rfl⟩
    rwa [objs_keys, hk, ← objs_keys] at this
theorem In.setCell {L0 L : List (Nat × Array Value × TypeId)} {W0 W : World} (h : In L0 W0 L W) (i : Nat) {b : Nat} {cs : Array Value} {t : TypeId} (hi : L[i]? = some (b, cs, t)) (o : Nat) (v : Value) : In L0 W0 (L.set i (b, cs.setIfInBounds o v, t)) (W.setCell ⟨b, o, none⟩ v) := by
  rw [setCell_eq_setRow W b o cs t (0, 0) v (h.at i hi).1]
  exact h.setRow i hi _
theorem In.tail {L0 L : List (Nat × Array Value × TypeId)} {x : Nat × Array Value × TypeId} {W0 W : World} (h : In L0 W0 (x :: L) W) : In L0 W0 L W := by
  refine ⟨⟨⟨fun y hy => h.rd.holds.1 y (List.mem_cons_of_mem _ hy), ?_⟩, h.rd.kept, fun y hy => h.rd.fresh y (List.mem_cons_of_mem _ hy)⟩⟩
  have := h.rd.holds.2
  rw [objs_keys] at this ⊢
  exact (List.nodup_cons.1 (by simpa using this)).2

/-- How a round's body may be left: it goes on, or by a jump. -/
def roundEnd (I : List (Nat × Array Value × TypeId) → Prop) (Ix : Code → List (Nat × Array Value × TypeId) → Prop) (L0 : List (Nat × Array Value × TypeId)) (W0 : World) : Exit → Act → World → Prop
  | .normal, _, W => ∃ L, In L0 W0 L W ∧ I L
  | .ret, _, W => ∃ L, In L0 W0 L W ∧ Ix .ret L
  | .exit id, _, W => ∃ L, In L0 W0 L W ∧ Ix (.exit id) L
  | .goto t, _, W => ∃ L, In L0 W0 L W ∧ Ix (.goto t) L
  | .panic _, _, _ => False
  | .outgrown, _, _ => False

/-- Blocks beside the loop's: they lie as they lay. -/
theorem Rd.frame {E L L2 : List (Nat × Obj)} {W W3 : World} (h : Rd L W L2 W3) (hE : Holds W (E ++ L)) : Rd (E ++ L) W (E ++ L2) W3 := by
  have hd := hE.2
  rw [List.map_append, List.nodup_append] at hd
  refine ⟨⟨fun x hx => ?_, ?_⟩, ⟨h.kept.os, h.kept.tape, h.kept.output, h.kept.size, fun k hk hn => h.kept.block k hk (fun hm => hn (by rw [List.map_append]; exact List.mem_append_right _ hm))⟩, fun x hx => ?_⟩
  · rcases List.mem_append.1 hx with hx | hx
    · have hxE : x ∈ E ++ L := List.mem_append_left _ hx
      refine (h.kept.block _ (hE.lt hxE) (fun hm => ?_)).trans (hE.1 x hxE)
      exact hd.2.2 _ (List.mem_map.2 ⟨x, hx, rfl⟩) _ hm rfl
    · exact h.holds.1 x hx
  · rw [List.map_append, List.nodup_append]
    refine ⟨hd.1, h.holds.2, fun a ha b hb he => ?_⟩
    subst he
    obtain ⟨x, hx, rfl⟩ := List.mem_map.1 ha
    obtain ⟨y, hy, he⟩ := List.mem_map.1 hb
    rcases h.fresh y hy with h1 | h1
    · exact hd.2.2 _ ha _ (he ▸ h1) rfl
    · have := hE.lt (List.mem_append_left L hx)
      omega
  · rcases List.mem_append.1 hx with hx | hx
    · exact .inl (List.mem_map.2 ⟨x, List.mem_append_left _ hx, rfl⟩)
    · rcases h.fresh x hx with h1 | h1
      · exact .inl (by rw [List.map_append]; exact List.mem_append_right _ h1)
      · exact .inr h1
theorem in_of_full {E0 E : List (Nat × Obj)} {L0 L : List (Nat × Array Value × TypeId)} {w W1 W : World} (hb : Below w.heap.size w W1) (hk : E.map (·.1) = E0.map (·.1)) (hE : ∀ x ∈ E0, w.heap.size ≤ x.1) (h : Rd (E0 ++ objs L0) W1 (E ++ objs L) W) : In L0 w L W := by
  have hnd := h.holds.2
  rw [List.map_append, List.nodup_append] at hnd
  have hs := hb.size
  refine ⟨⟨⟨fun x hx => h.holds.1 x (List.mem_append_right _ hx), hnd.2.1⟩, ⟨h.kept.os.trans hb.os, h.kept.tape.trans hb.tape, h.kept.output.trans hb.output, Nat.le_trans hs h.kept.size, fun k hk2 hn => ?_⟩, fun x hx => ?_⟩⟩
  · refine (h.kept.block k (by omega) (fun hm => ?_)).trans (hb.block k hk2)
    rw [List.map_append, List.mem_append] at hm
    rcases hm with hm | hm
    · obtain ⟨y, hy, rfl⟩ := List.mem_map.1 hm
      have := hE y hy; omega
    · exact hn hm
  · rcases h.fresh x (List.mem_append_right _ hx) with h1 | h1
    · rw [List.map_append, List.mem_append] at h1
      rcases h1 with h1 | h1
      · rw [← hk] at h1
        exact (hnd.2.2 _ h1 _ (List.mem_map.2 ⟨x, hx, rfl⟩) rfl).elim
      · exact .inl h1
    · exact .inr (by omega)
/-- The first block of the list becomes another object. -/
theorem Rd.put {L0 L : List (Nat × Obj)} {W0 W : World} {l : Nat} {o : Obj} (h : Rd L0 W0 ((l, o) :: L) W) (o' : Obj) : Rd L0 W0 ((l, o') :: L) (W.putObj l o') := by
  have hlt := h.holds.lt (List.mem_cons_self ..)
  have hnd := h.holds.2
  simp only [List.map_cons, List.nodup_cons] at hnd
  refine h.trans ⟨⟨fun x hx => ?_, by simpa using hnd⟩, ⟨rfl, rfl, rfl, by simp, fun k hk2 hn => World.putObj_heap_other (fun e => hn (by simp [e]))⟩, fun x hx => .inl ?_⟩
  · rcases List.mem_cons.1 hx with rfl | hx
    · exact World.putObj_heap_same hlt
    · exact (World.putObj_heap_other (fun e => hnd.1 (by rw [← e]; exact List.mem_map.2 ⟨x, hx, rfl⟩))).trans (h.holds.1 x (List.mem_cons_of_mem _ hx))
  · have : x.1 ∈ ((l, o') :: L).map (·.1) := List.mem_map.2 ⟨x, hx, rfl⟩
    simpa using this

/-- **The loop 'for .. := range g { .. }' over an iterator that has its contract.** -/
theorem wp_range {P : Program} {g : Operand} {ps : Array Tmp} {assign body : Code} {Q : Exit → Act → World → Prop} {a : Act} {w : World}
    {gf : Nat} {lb : Array Value} (hg : a.eval g = .func (.func gf) #[] lb) (eg : ∀ args w, (callFunc gf args).run P w = .ok (.enter gf args) w)
    {els : Nat → Array Value} {N : Option Nat} {R : List Nat} {W0 : World} (hit : IterAt P gf lb els N R W0) (hb0 : Below W0.heap.size W0 w) (hps : ∀ k, (els k).size = ps.size)
    (I : Nat → List (Nat × Array Value × TypeId) → Prop) (Ix : Code → List (Nat × Array Value × TypeId) → Prop) (M : Nat) (hM : N = none → ∀ k L, I k L → k < M)
    (L0 : List (Nat × Array Value × TypeId)) (h0 : I 0 L0) (hH : Holds w (objs L0)) (hR : ∀ b ∈ R, b < w.heap.size ∧ b ∉ L0.map (·.1)) (a₁ : Nat → Act)
    (hassign : ∀ (l k : Nat) (W : World) (K : Act → World → Prop), K (a₁ k) W →
      assign.wpIn (Fence.wide.inRound l) 0 P (Exit.then K (fun _ _ _ => False)) { tmps := (ps.zip (els k)).foldl (fun t (p, v) => t.setIfInBounds p v) a.tmps, defers := [] } W)
    (hbody : ∀ (l k : Nat) (L : List (Nat × Array Value × TypeId)) (W : World), I k L → In L0 w L W → (∀ n, N = some n → k < n) → body.wpIn (Fence.wide.inRound l) 0 P (roundEnd (I (k + 1)) Ix L W) (a₁ k) W)
    (hdone : ∀ (D n : Nat) (L : List (Nat × Array Value × TypeId)) (W : World), N = some n → I n L → In L0 w L W → W.heap[D]? = some (.deferred (some [])) → w.heap.size ≤ D → Q .normal { a with defers := { target := .collected D, args := #[] } :: a.defers } W)
    (hstop : ∀ (D : Nat) (c : Code) (L : List (Nat × Array Value × TypeId)) (W : World), Ix c L → In L0 w L W → W.heap[D]? = some (.deferred (some [])) → w.heap.size ≤ D → c.wp P Q { a with defers := { target := .collected D, args := #[] } :: a.defers } W) :
    (Code.rangeFunc g ps assign body).wp P Q a w := by
  refine (wpIn_wide (n := 0)).1 (wpIn_rangeFunc ?_)
  intro fn hfn
  obtain ⟨rec, hrec⟩ : ∃ rec : LoopState → Option Code → Loop, rec = fun st pe => { state := st, pending := pe, fn, tmps := a.tmps, params := ps, assign, body, defers := w.heap.size } := ⟨_, rfl⟩
  obtain ⟨W1, hW1⟩ : ∃ W1, (w.alloc (.deferred (some []))).alloc (.loop (rec .ready none)) = W1 := ⟨_, rfl⟩
  have hL1 : W1.heap[w.heap.size + 1]? = some (.loop (rec .ready none)) := by
    rw [← hW1]; have := World.alloc_heap_new (w.alloc (.deferred (some []))) (.loop (rec .ready none)); rwa [World.size_alloc] at this
  have hK1 : W1.heap[w.heap.size]? = some (.deferred (some [])) := by
    rw [← hW1]; exact (Below.heap_alloc _ _ _ (by simp)).trans (World.alloc_heap_new w _)
  have hbW : Below w.heap.size w W1 := by rw [← hW1]; exact ((Below.refl _ w).alloc (Nat.le_refl _) _).alloc (by simp) _
  have hb1 : Below W0.heap.size W0 W1 := hb0.trans (hbW.mono hb0.size)
  have hHk : Holds W1 (objs L0) := hH.kept (B := []) (Kept.of_below hbW) (fun _ _ => List.not_mem_nil)
  have hn1 : ∀ m, w.heap.size ≤ m → m ∉ L0.map (·.1) := fun m hm0 hm => by
    rw [← objs_keys] at hm
    obtain ⟨x, hx, he⟩ := List.mem_map.1 hm
    have := hH.lt hx; omega
  have hF0 : Holds W1 ([(w.heap.size + 1, .loop (rec .ready none)), (w.heap.size, .deferred (some []))] ++ objs L0) := by
    refine ⟨fun x hx => ?_, ?_⟩
    · simp only [List.cons_append, List.nil_append, List.mem_cons] at hx
      rcases hx with rfl | rfl | hx
      · exact hL1
      · exact hK1
      · exact hHk.1 x hx
    · have := hH.2
      rw [objs_keys] at this
      simp only [List.cons_append, List.nil_append, List.map_cons, objs_keys, List.nodup_cons, List.mem_cons, not_or]
      exact ⟨⟨by omega, hn1 _ (by omega)⟩, hn1 _ (Nat.le_refl _), this⟩
  have hE0 : ∀ x ∈ [(w.heap.size + 1, Obj.loop (rec .ready none)), (w.heap.size, .deferred (some []))], w.heap.size ≤ x.1 := by
    intro x hx
    simp only [List.mem_cons, List.not_mem_nil, or_false] at hx
    rcases hx with rfl | rfl
    · exact Nat.le_succ _
    · exact Nat.le_refl _
  refine ⟨w.heap.size + 1, [{ target := .collected w.heap.size, args := #[] }], W1, { target := .fn (.func gf) lb, args := #[.func (.yield (w.heap.size + 1)) #[] #[]] }, W1, gf,
    #[.func (.yield (w.heap.size + 1)) #[] #[]] ++ lb, W1, ?_, ?_, fun _ _ => trivial, ?_, (fun h => by cases h), ?_⟩
  · rw [← hW1, hrec]; exact run_enterLoop_outer _ _ _ _ _
  · simp only [resolve, hg]
    simp [go_sem]
  · simp [invoke, go_sem, eg]
  · refine callsIn_wide.2 ?_
    refine (hit (w.heap.size + 1)
      (fun k L' => ∃ L, L' = [(w.heap.size + 1, .loop (rec .ready none)), (w.heap.size, .deferred (some []))] ++ objs L ∧ I k L)
      (fun L' => ∃ L c, L' = [(w.heap.size + 1, .loop (rec .done (some c))), (w.heap.size, .deferred (some []))] ++ objs L ∧ Ix c L)
      M W1 ([(w.heap.size + 1, .loop (rec .ready none)), (w.heap.size, .deferred (some []))] ++ objs L0) hb1 ?_ ?_ ⟨L0, rfl, h0⟩ hF0 ?_).mono ?_
    · intro b hb
      obtain ⟨h1, h2⟩ := hR b hb
      simp only [List.cons_append, List.nil_append, List.map_cons, objs_keys, List.mem_cons, not_or]
      exact ⟨by omega, by omega, h2⟩
    · rintro hN k L' ⟨L, _, hI⟩; exact hM hN k L hI
    · -- ONE ROUND
      rintro k L' W ⟨L, rfl, hI⟩ hRd hkn
      have hl : W.heap[w.heap.size + 1]? = some (.loop (rec .ready none)) := hRd.holds.1 _ (List.mem_cons_self ..)
      have hy := run_yield (P := P) (args := els k) hl (by rw [hrec]; exact hps k)
      rw [hrec] at hy
      refine ⟨fn, _, assign, body, hy, roundIn_of_wpIn hfn (hassign _ k W _ ⟨_, run_beginRound hl (by rw [hrec]), ?_⟩)⟩
      have hRd2 := Rd.put (L := (w.heap.size, .deferred (some [])) :: objs L) hRd (.loop { rec .ready none with state := .busy })
      have hs2 := Rd.put (L := (w.heap.size, .deferred (some [])) :: objs L) (Rd.refl hRd.holds) (.loop { rec .ready none with state := .busy })
      generalize W.putObj (w.heap.size + 1) (.loop { rec .ready none with state := .busy }) = W2 at *
      have hIn : In L0 w L W2 := in_of_full (E0 := [(w.heap.size + 1, .loop (rec .ready none)), (w.heap.size, .deferred (some []))]) (E := [(w.heap.size + 1, .loop { rec .ready none with state := .busy }), (w.heap.size, .deferred (some []))]) hbW rfl hE0 hRd2
      refine wpIn_mono (hbody _ k L W2 hI hIn hkn) ?_
      have fin : ∀ (jump : Option Code) (L2 : List (Nat × Array Value × TypeId)) (W3 : World), In L W2 L2 W3 →
          ∃ W4, (Instr.endRound (w.heap.size + 1) jump).run P W3 = .ok (.bool jump.isNone) W4 ∧
            Rd ([(w.heap.size + 1, .loop (rec .ready none)), (w.heap.size, .deferred (some []))] ++ objs L) W ([(w.heap.size + 1, .loop (rec (if jump.isNone then .ready else .done) jump)), (w.heap.size, .deferred (some []))] ++ objs L2) W4 := fun jump L2 W3 h3 => by
        have hf := Rd.frame (E := [(w.heap.size + 1, .loop { rec .ready none with state := .busy }), (w.heap.size, .deferred (some []))]) h3.rd hRd2.holds
        have hl3 : W3.heap[w.heap.size + 1]? = some (.loop { rec .ready none with state := .busy }) := hf.holds.1 _ (List.mem_cons_self ..)
        have hr := run_endRound (P := P) jump hl3
        refine ⟨_, hr, ?_⟩
        have h5 := Rd.put (L := (w.heap.size, .deferred (some [])) :: objs L2) (hs2.trans hf) (.loop (rec (if jump.isNone then .ready else .done) jump))
        rw [hrec] at h5 ⊢
        exact h5
      rintro e a3 W3 hp
      cases e with
      | normal =>
        obtain ⟨L2, h3, hi3⟩ := hp
        obtain ⟨W4, hr, h4⟩ := fin none L2 W3 h3
        exact ⟨_, _, hr, _, h4, .inl ⟨rfl, L2, rfl, hi3⟩⟩
      | ret =>
        obtain ⟨L2, h3, hi3⟩ := hp
        obtain ⟨W4, hr, h4⟩ := fin (some .ret) L2 W3 h3
        exact ⟨_, _, hr, _, h4, .inr ⟨rfl, L2, .ret, rfl, hi3⟩⟩
      | exit id =>
        obtain ⟨L2, h3, hi3⟩ := hp
        obtain ⟨W4, hr, h4⟩ := fin (some (.exit id)) L2 W3 h3
        exact ⟨_, _, hr, _, h4, .inr ⟨rfl, L2, .exit id, rfl, hi3⟩⟩
      | goto t =>
        obtain ⟨L2, h3, hi3⟩ := hp
        obtain ⟨W4, hr, h4⟩ := fin (some (.goto t)) L2 W3 h3
        exact ⟨_, _, hr, _, h4, .inr ⟨rfl, L2, .goto t, rfl, hi3⟩⟩
      | panic ch => exact hp.elim
      | outgrown => exact hp.elim
    · -- BEHIND THE ITERATOR
      rintro e W2 ⟨⟨v, rfl⟩, L', hRd, (⟨n, hN, L, rfl, hI⟩ | ⟨L, c, rfl, hI⟩)⟩
      · have hl : W2.heap[w.heap.size + 1]? = some (.loop (rec .ready none)) := hRd.holds.1 _ (List.mem_cons_self ..)
        have hr := run_endLoop (P := P) hl (by rw [hrec]; simp)
        have hR2 := Rd.put (L := (w.heap.size, .deferred (some [])) :: objs L) hRd (.loop (rec .exhausted (none)))
        rw [show ({ rec .ready none with state := .exhausted } : Loop) = rec .exhausted (none) by rw [hrec], show (rec .ready none).pending = none by rw [hrec]] at hr
        refine ⟨none, _, hr, ?_⟩
        exact hdone w.heap.size n L _ hN hI (in_of_full (E0 := [(w.heap.size + 1, .loop (rec .ready none)), (w.heap.size, .deferred (some []))]) (E := [(w.heap.size + 1, .loop (rec .exhausted (none))), (w.heap.size, .deferred (some []))]) hbW rfl hE0 hR2) (hR2.holds.1 _ (List.mem_cons_of_mem _ (List.mem_cons_self ..))) (Nat.le_refl _)
      · have hl : W2.heap[w.heap.size + 1]? = some (.loop (rec .done (some c))) := hRd.holds.1 _ (List.mem_cons_self ..)
        have hr := run_endLoop (P := P) hl (by rw [hrec]; simp)
        have hR2 := Rd.put (L := (w.heap.size, .deferred (some [])) :: objs L) hRd (.loop (rec .exhausted (some c)))
        rw [show ({ rec .done (some c) with state := .exhausted } : Loop) = rec .exhausted (some c) by rw [hrec], show (rec .done (some c)).pending = some c by rw [hrec]] at hr
        refine ⟨some c, _, hr, ?_⟩
        exact (wpIn_wide (n := 0)).2 (hstop w.heap.size c L _ hI (in_of_full (E0 := [(w.heap.size + 1, .loop (rec .ready none)), (w.heap.size, .deferred (some []))]) (E := [(w.heap.size + 1, .loop (rec .exhausted (some c))), (w.heap.size, .deferred (some []))]) hbW rfl hE0 hR2) (hR2.holds.1 _ (List.mem_cons_of_mem _ (List.mem_cons_self ..))) (Nat.le_refl _))
theorem St.holds {w0 wr : World} {L : List (Nat × Array Value × TypeId)} (h : St w0 wr L) : Holds wr (objs L) := by
  refine ⟨fun x hx => ?_, by rw [objs_keys]; exact h.2.2⟩
  obtain ⟨y, hy, rfl⟩ := List.mem_map.1 hx
  exact (h.2.1 y hy).2
/-- Behind a loop, or in one of its rounds: the blocks of one's own. -/
theorem St.range {w0 w W : World} {L0 L : List (Nat × Array Value × TypeId)} (h : St w0 w L0) (h2 : In L0 w L W) : St w0 W L := by
  have hs := h.1.size
  refine ⟨h.1.trans (h2.rd.kept.below hs (fun b hb => ?_)), fun x hx => ⟨?_, h2.rd.holds.1 (x.1, .cells x.2.1 x.2.2) (List.mem_map.2 ⟨x, hx, rfl⟩)⟩, by have := h2.rd.holds.2; rwa [objs_keys] at this⟩
  · rw [objs_keys] at hb
    obtain ⟨x, hx, rfl⟩ := List.mem_map.1 hb
    exact (h.2.1 x hx).1
  · rcases h2.rd.fresh (x.1, .cells x.2.1 x.2.2) (List.mem_map.2 ⟨x, hx, rfl⟩) with h3 | h3
    · rw [objs_keys] at h3
      obtain ⟨y, hy, he⟩ := List.mem_map.1 h3
      rw [← he]; exact (h.2.1 y hy).1
    · exact Nat.le_trans hs h3
/-- A round's own walk begins. -/
theorem In.round {L0 L : List (Nat × Array Value × TypeId)} {w W : World} (h : In L0 w L W) : In L W L W := .start h.rd.holds
/-- The block of the rounds' deferred calls is shut: one's own blocks stay. -/
theorem St.shut {w0 wr : World} {L : List (Nat × Array Value × TypeId)} (h : St w0 wr L) {D : Nat} {o : Obj} (hD : wr.heap[D]? = some o) (hc : ∀ c t f, o ≠ .cells c t f) (h0 : w0.heap.size ≤ D) (o' : Obj) : St w0 (wr.putObj D o') L := by
  refine ⟨h.1.trans ⟨rfl, rfl, rfl, by simp, fun k hk => World.putObj_heap_other (by omega)⟩, fun x hx => ⟨(h.2.1 x hx).1, ?_⟩, h.2.2⟩
  refine (World.putObj_heap_other (fun e => ?_)).trans (h.2.1 x hx).2
  have := (h.2.1 x hx).2
  rw [e] at this
  have h2 : wr.heap[D]? = some (.cells x.2.1 x.2.2 (0, 0)) := this
  rw [hD] at h2
  exact hc _ _ _ (Option.some.inj h2)
end Go.Proofs.Ytkfggilildiflab

namespace Go.Proofs.Ytkfggilildiflab
open Go.ChangeShapes Go.WideShapes Go.ChangeAt Go.RowKit

def twiceB (b : UInt8) : UInt8 := (b <<< 1) ^^^ ((27 : UInt8) * (b >>> 7))
def mulGo : Nat → UInt8 → UInt8 → UInt8 → UInt8
  | 0, _, _, out => out
  | n + 1, a, b, out => if b = 0 then out else mulGo n (twiceB a) (b >>> 1) (out ^^^ a * (b &&& 1))
def mulB (a b : UInt8) : UInt8 := mulGo 8 a b 0

theorem u8_ofInt (x : UInt8) : (x.toNat : Int) < 256 := by have := x.toNat_lt; omega
theorem xor_u8 (x y : UInt8) : bits .xor .u8 (x.toNat : Int) (y.toNat : Int) = ((x ^^^ y).toNat : Int) := by
  rw [u8_xor_nat _ _ x.toNat_lt y.toNat_lt]; simp
theorem and_u8 (x y : UInt8) : bits .and .u8 (x.toNat : Int) (y.toNat : Int) = ((x &&& y).toNat : Int) := by
  rw [u8_and_nat _ _ x.toNat_lt y.toNat_lt]; simp

theorem bvs4 (a b c d : UInt8) : #[Value.int .u8 (a.toNat : Int), .int .u8 (b.toNat : Int), .int .u8 (c.toNat : Int), .int .u8 (d.toNat : Int)] = bvs [a, b, c, d] := rfl

set_option maxRecDepth 100000 in
theorem twice_all : ∀ n : Fin 256, bits .xor .u8 (((UInt8.ofNat n).toNat : Int) * 2 % 256) (27 * (((UInt8.ofNat n).toNat : Int) / 128)) = ((twiceB (UInt8.ofNat n)).toNat : Int) := by decide +kernel
theorem twice_u8 (b : UInt8) : bits .xor .u8 ((b.toNat : Int) * 2 % 256) (27 * ((b.toNat : Int) / 128)) = ((twiceB b).toNat : Int) := by
  have := twice_all ⟨b.toNat, b.toNat_lt⟩
  simpa using this

set_option maxHeartbeats 400000 in
theorem twice_any (b : UInt8) (w : World) : Calls Try.prog 149 #[.int .u8 b.toNat] w fun e w' => e = .returned (.int .u8 (twiceB b).toNat) ∧ w = w' := by
  have h := u8_ofInt b
  go_enter Try.func149, Try.ntmps149
  go_wp2
  go_ret
  exact ⟨ret_int (twice_u8 b), rfl⟩

theorem shr1_u8 (b : UInt8) : (b.toNat : Int) / (2 : Int) = ((b >>> 1).toNat : Int) := by
  rw [UInt8.toNat_shiftRight]; simp [Nat.shiftRight_eq_div_pow]
theorem mulstep_u8 (x y o : UInt8) : bits .xor .u8 (o.toNat : Int) ((x.toNat : Int) * bits .and .u8 (y.toNat : Int) 1 % 256) = ((o ^^^ x * (y &&& 1)).toNat : Int) := by
  have h1 : bits .and .u8 (y.toNat : Int) 1 = ((y &&& 1).toNat : Int) := and_u8 y 1
  have h2 : (x.toNat : Int) * ((y &&& 1).toNat : Int) % 256 = ((x * (y &&& 1)).toNat : Int) := by rw [UInt8.toNat_mul, Int.natCast_emod, Int.natCast_mul]; rfl
  rw [h1, h2, xor_u8]
theorem mulGo_succ (n : Nat) (a b out : UInt8) : mulGo (n + 1) a b out = if b = 0 then out else mulGo n (twiceB a) (b >>> 1) (out ^^^ a * (b &&& 1)) := rfl
theorem mulGo_zero (n : Nat) (a out : UInt8) : mulGo n a 0 out = out := by cases n <;> simp [mulGo]

set_option maxHeartbeats 400000 in
theorem mul_any (a b : UInt8) (w : World) : Calls Try.prog 145 #[.int .u8 a.toNat, .int .u8 b.toNat] w fun e w' => e = .returned (.int .u8 (mulB a b).toNat) ∧ w = w' := by
  go_enter Try.func145, Try.ntmps145
  go_wp2
  go_loop [0, 1, 5] (fun u0 u1 u5 => ∃ (x y o : UInt8) (n : Nat), y.toNat < 2 ^ n ∧ mulGo n x y o = mulB a b ∧ u0 = .int .u8 x.toNat ∧ u1 = .int .u8 y.toNat ∧ u5 = .int .u8 o.toNat) (fun _ i _ => (intOf i).toNat)
  case atStart => exact ⟨a, b, 0, 8, b.toNat_lt, rfl, rfl, rfl, rfl⟩
  case round =>
    obtain ⟨x, y, o, n, hy, hm, rfl, rfl, rfl⟩ := hrel
    have hx := u8_ofInt x
    have hy8 := u8_ofInt y
    have HM := hid hm; clear hm
    have HY := hid hy; clear hy
    by_cases h0 : 0 < y.toNat
    · have e1 := hid (mulstep_u8 x y o)
      have e2 := hid (shr1_u8 y)
      go_wp2_with fail
      refine (twice_any x _).mono ?_
      rintro e w' ⟨rfl, rfl⟩
      go_wp2
      go_round
      case rel =>
        have hn : ∃ m, n = m + 1 := by
          cases n with
          | zero => have := HY.out; omega
          | succ m => exact ⟨m, rfl⟩
        obtain ⟨m, rfl⟩ := hn
        refine ⟨twiceB x, y >>> 1, o ^^^ x * (y &&& 1), m, ?_, ?_, rfl, by rw [e2.out], by rw [e1.out]⟩
        · have := HY.out; rw [UInt8.toNat_shiftRight]; simp [Nat.shiftRight_eq_div_pow]; rw [Nat.pow_succ] at this; omega
        · rw [← HM.out, mulGo_succ, if_neg (by intro h; subst h; simp at h0)]
      case measure => simp [intOf]; omega
    · have hy0 : y = 0 := by rw [← UInt8.toNat_inj]; simp; omega
      have HM2 := HM.out
      rw [hy0, mulGo_zero] at HM2
      have HM3 := hid HM2; clear HM2
      clear HM HY
      subst hy0
      go_wp2
      go_ret
      exact ⟨ret_int (by rw [HM3.out]), rfl⟩
end Go.Proofs.Ytkfggilildiflab

namespace Go.Proofs.Ytkfggilildiflab
open Go.ChangeShapes Go.WideShapes Go.ChangeAt Go.RowKit

/-- A bit of a number. -/
def tb (x i : Nat) : Nat := x / 2 ^ i % 2
theorem tb_lt (x i : Nat) : tb x i < 2 := Nat.mod_lt _ (by decide)
theorem tb_is (x i : Nat) : tb x i = (x.testBit i).toNat := by
  rw [Nat.testBit_eq_decide_div_mod_eq]; unfold tb
  have := Nat.mod_lt (x / 2 ^ i) (show 0 < 2 by decide)
  by_cases h : x / 2 ^ i % 2 = 1
  · simp [h]
  · simp [h]; omega


theorem tb_le (x i : Nat) : tb x i ≤ 1 := by have := tb_lt x i; omega
theorem tb_xor (x y i : Nat) : tb (x ^^^ y) i = (tb x i + tb y i) % 2 := by
  rw [tb_is, tb_is, tb_is, Nat.testBit_xor]
  cases x.testBit i <;> cases y.testBit i <;> rfl
theorem tb_zero (i : Nat) : tb 0 i = 0 := by simp [tb]
theorem tb_shift (v i j : Nat) (hv : v < 2) : tb (v <<< i) j = if i = j then v else 0 := by
  have hv : v = 0 ∨ v = 1 := by omega
  rcases hv with rfl | rfl
  · simp [tb]
  · rw [tb_is, Nat.one_shiftLeft, Nat.testBit_two_pow]
    by_cases h : i = j <;> simp [h]
/-- Fifteen bits as cells. -/
def pl (P : Nat) : List Value := (List.range 15).map fun j => .int .i64 (tb P j)
def pc (P : Nat) : Array Value := (pl P).toArray
theorem pc_size (P : Nat) : csz (pc P) = 15 := by simp [csz, pc, pl]
theorem pc_any (P j : Nat) : (pc P)[j]? = if j < 15 then some (.int .i64 (tb P j)) else none := by
  by_cases h : j < 15 <;> simp [pc, pl, h]
theorem pc_get (P j : Nat) (hj : j < 15) : (pc P)[j]? = some (.int .i64 (tb P j)) := by rw [pc_any, if_pos hj]
/-- One bit written over. -/
theorem pc_put (P Q j : Nat) (x : Int) (hx : x = tb Q j) (h : ∀ k, k < 15 → k ≠ j → tb P k = tb Q k) : (pc P).setIfInBounds j (.int .i64 x) = pc Q := by
  apply Array.ext_getElem?
  intro k
  rw [Array.getElem?_setIfInBounds, pc_any, pc_any]
  by_cases hj : j = k
  · subst hj
    rw [if_pos rfl, hx, show (pc P).size = 15 by simp [pc, pl]]
  · rw [if_neg hj]
    by_cases hk : k < 15
    · rw [if_pos hk, if_pos hk, h k hk (fun e => hj e.symm)]
    · rw [if_neg hk, if_neg hk]
theorem pc_set (P j v : Nat) (hv : v < 2) : (pc P).setIfInBounds j (.int .i64 (((tb P j : Int) + (v : Int)) % 2)) = pc (P ^^^ (v <<< j)) := by
  refine pc_put P _ j _ ?_ (fun k _ h => ?_)
  · rw [tb_xor, tb_shift v j j hv, if_pos rfl]; rfl
  · rw [tb_xor, tb_shift v j k hv, if_neg (fun e => h e.symm)]; have := tb_lt P k; omega
theorem tb_flip (P j : Nat) : (1 : Int) - (tb P j : Int) = tb (P ^^^ (1 <<< j)) j := by
  rw [tb_xor, tb_shift 1 j j (by decide), if_pos rfl]; have := tb_lt P j; omega
theorem tb_flip' (P j k : Nat) (h : k ≠ j) : tb P k = tb (P ^^^ (1 <<< j)) k := by
  rw [tb_xor, tb_shift 1 j k (by decide), if_neg (fun e => h e.symm)]; have := tb_lt P k; omega
theorem pc_flip (P j : Nat) : (pc P).setIfInBounds j (.int .i64 ((1 : Int) - (tb P j : Int))) = pc (P ^^^ (1 <<< j)) := pc_put P _ j _ (tb_flip P j) (fun k _ h => tb_flip' P j k h)
theorem pc_clear (P j : Nat) (h1 : tb P j = 1) : (pc P).setIfInBounds j (.int .i64 0) = pc (P ^^^ (1 <<< j)) := by
  have := pc_flip P j; rw [h1] at this; exact this

def mulP (a b : Nat) : Nat → Nat
  | 0 => 0
  | n + 1 => mulP a b n ^^^ ((tb a (n / 8) * tb b (n % 8)) <<< (n / 8 + n % 8))
theorem mulP_succ (a b i k : Nat) (hk : k < 8) : mulP a b (8 * i + (k + 1)) = mulP a b (8 * i + k) ^^^ ((tb a i * tb b k) <<< (i + k)) := by
  have e1 : (8 * i + k) / 8 = i := by omega
  have e2 : (8 * i + k) % 8 = k := by omega
  show mulP a b ((8 * i + k) + 1) = _
  simp only [mulP, e1, e2]
/-- Five bits turned: x to the i is put as what it comes to. -/
def red1 (P i : Nat) : Nat := ((((P ^^^ (1 <<< i)) ^^^ (1 <<< (i - 8))) ^^^ (1 <<< (i - 7))) ^^^ (1 <<< (i - 5))) ^^^ (1 <<< (i - 4))
theorem pc_flip' (P0 Q j : Nat) (h : tb P0 j = tb Q j) : (pc Q).setIfInBounds j (.int .i64 ((1 : Int) - (tb P0 j : Int))) = pc (Q ^^^ (1 <<< j)) := by rw [h, pc_flip]
theorem pc_red (P i : Nat) (h8 : 8 ≤ i) (h1 : tb P i = 1) :
    (((((pc P).setIfInBounds i (.int .i64 0)).setIfInBounds (i - 8) (.int .i64 ((1 : Int) - (tb P (i - 8) : Int)))).setIfInBounds (i - 7) (.int .i64 ((1 : Int) - (tb P (i - 7) : Int)))).setIfInBounds (i - 5) (.int .i64 ((1 : Int) - (tb P (i - 5) : Int)))).setIfInBounds (i - 4) (.int .i64 ((1 : Int) - (tb P (i - 4) : Int))) = pc (red1 P i) := by
  have f (Q j k : Nat) (h : k ≠ j) (e : tb P k = tb Q k) : tb P k = tb (Q ^^^ (1 <<< j)) k := e.trans (tb_flip' Q j k h)
  rw [pc_clear P i h1, pc_flip' P _ (i - 8) (f _ _ _ (by omega) rfl), pc_flip' P _ (i - 7) (f _ _ _ (by omega) (f _ _ _ (by omega) rfl)),
    pc_flip' P _ (i - 5) (f _ _ _ (by omega) (f _ _ _ (by omega) (f _ _ _ (by omega) rfl))), pc_flip' P _ (i - 4) (f _ _ _ (by omega) (f _ _ _ (by omega) (f _ _ _ (by omega) (f _ _ _ (by omega) rfl))))]
  rfl
def redN (P : Nat) : Nat → Nat
  | 0 => P
  | m + 1 => if tb (redN P m) (14 - m) = 1 then red1 (redN P m) (14 - m) else redN P m
theorem redN_succ (P i : Nat) (h8 : 8 ≤ i) (hi : i ≤ 14) : redN P (14 - i + 1) = if tb (redN P (14 - i)) i = 1 then red1 (redN P (14 - i)) i else redN P (14 - i) := by
  show (if tb (redN P (14 - i)) (14 - (14 - i)) = 1 then red1 (redN P (14 - i)) (14 - (14 - i)) else redN P (14 - i)) = _
  rw [show 14 - (14 - i) = i by omega]
def outN (P : Nat) : Nat → Nat
  | 0 => 0
  | m + 1 => 2 * outN P m + tb P (7 - m)
theorem outN_succ (P m : Nat) : outN P (m + 1) = 2 * outN P m + tb P (7 - m) := rfl
theorem outN_lt (P m : Nat) : outN P m < 2 ^ m := by
  induction m with
  | zero => simp [outN]
  | succ m ih => have := tb_lt P (7 - m); simp only [outN]; rw [Nat.pow_succ]; omega
/-- The document's product. -/
def refMulN (a b : Nat) : Nat := outN (redN (mulP a b 64) 7) 8
theorem refMulN_lt (a b : Nat) : refMulN a b < 256 := outN_lt _ 8
def refMulB (a b : UInt8) : UInt8 := UInt8.ofNat (refMulN a.toNat b.toNat)
theorem refMulB_nat (a b : UInt8) : (refMulB a b).toNat = refMulN a.toNat b.toNat := by
  have := refMulN_lt a.toNat b.toNat
  simp [refMulB]; omega

/-! ### It is the field's own product: by lines of the second number's bits -/
theorem mulN_2 : ∀ a : Fin 256, refMulN a 2 = (mulB (UInt8.ofNat a) 2).toNat := by decide +kernel
theorem mulN_3 : ∀ a : Fin 256, refMulN a 3 = (mulB (UInt8.ofNat a) 3).toNat := by decide +kernel
theorem refMul_2 (a : UInt8) : refMulN a.toNat 2 = (mulB a 2).toNat := by simpa using mulN_2 ⟨a.toNat, a.toNat_lt⟩
theorem refMul_3 (a : UInt8) : refMulN a.toNat 3 = (mulB a 3).toNat := by simpa using mulN_3 ⟨a.toNat, a.toNat_lt⟩
end Go.Proofs.Ytkfggilildiflab
