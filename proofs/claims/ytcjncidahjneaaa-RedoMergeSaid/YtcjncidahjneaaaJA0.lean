/-
  Laws that the claims of this seat use, of several texts in one: Lib, Agg, Types, Open, OpenS. No condition of their own.
-/
import Derived.Test.YtcjncidahjneaaaRows
import Derived.ProofKit
import Derived.SizedLaws
import Derived.OpenShut
import Derived.WalkKit
import Derived.WalkSpells
import Derived.WalkLawsBesides
import Derived.BigQuiet
import Derived.Deep.QuietTactic
import Derived.Deep.RegionHeld3
import Derived.Deep.DeepCutAuto
import Derived.Deep.LoopGhost
import Derived.Deep.DeepMust
import Derived.Deep.DeepFit
import Derived.Deep.Slices

namespace Go.Proofs.Ytcjncidahjneaaa
open Go.ChangeShapes Go.WideShapes Go.ChangeAt Go.RowKit

/-- A byte as a value. -/
def bv (b : UInt8) : Value := .int .u8 (b.toNat : Int)
/-- Bytes as the cells of an array. -/
def bvs (l : List UInt8) : Array Value := (l.map bv).toArray

theorem below_trodAll {P : Program} {H : Type} {enc : TypeId × Value → H} (hl : laidOutB P = true) {W W' : World} (hb : Below W.heap.size W W') :
    ∀ (ts : List TypeId), (∀ t ∈ ts, P.readableRec t = true ∧ t < P.types.size) → ∀ (vs : List Value) (ds : List (DataW H)) (ps : List MemPlace),
      DataW.TrodAll enc P W 0 (fun _ => true) true ts vs ds ps → (∀ x ∈ ps, x.block < W.heap.size) → DataW.TrodAll enc P W' 0 (fun b => decide (b < W.heap.size)) true ts vs ds ps
  | [], _, vs, ds, ps, h, _ => by
    obtain ⟨rfl, rfl, rfl⟩ := trodAll_nil h
    exact trodAll_mk0
  | t :: ts, ht, vs, ds, ps, h, hlt => by
    obtain ⟨v, vs', d, ds', p, q, rfl, rfl, rfl, h1, h2⟩ := trodAll_cons h
    have k := ht t (by simp)
    exact trodAll_cons_mk (Below.trod hl k.1 k.2 h1 hb (fun x hx => hlt x (by simp [hx]))) (below_trodAll hl hb ts (fun t' h' => ht t' (by simp [h'])) vs' ds' q h2 (fun x hx => hlt x (by simp [hx])))

theorem trodAll_length {P : Program} {H : Type} {enc : TypeId × Value → H} {w : World} {base : Nat} {sp : Nat → Bool} {held : Bool} : ∀ {ts : List TypeId} {vs : List Value} {ds : List (DataW H)} {ps : List MemPlace},
    DataW.TrodAll enc P w base sp held ts vs ds ps → ds.length = ts.length
  | [], vs, ds, ps, h => by obtain ⟨rfl, rfl, rfl⟩ := trodAll_nil h; rfl
  | t :: ts, vs, ds, ps, h => by
    obtain ⟨v, vs', d, ds', p1, q1, rfl, rfl, rfl, h1, h2⟩ := trodAll_cons h
    simp [trodAll_length h2]

/-- From the walk of a law's Go function to its row: it answers true, and below the heap's old size nothing has turned. -/
theorem law_lift {C : Checked} {os : Os} {f : FuncId} {fn : Func} {s : ChangeSpec} {H : Type} {enc : TypeId × Value → H} {tb : TypeId}
    (own : ownKnob C.prog.godebug = none) (started : os.Started) (noInit : C.prog.inits.idxOf? f = none) (hfn : C.prog.funcs[f]? = some fn)
    (witness : ∃ (w : World) (tape : Tape) (i : Input), w.os = os ∧ (w.forCall tape i).Shaped C.prog ∧ i.vars = [] ∧ Input.okWide C.prog (w.forCall tape i) .any w.heap.size f i ∧
      s.pre6 enc C.prog fn [] false (w.forCall tape i).memory i.args ∧ ({} : Assume).holds C.prog (lone (Frame.enter C.prog f i.args .normal) [] (w.forCall tape i)))
    (hvars : s.vars = []) (hres : fn.resultTypes = #[tb]) (htb : C.prog.underlying tb = some .bool)
    (hs : ∀ ds : List (DataW H), ds.length = fn.params.toList.length → (s.fn H (ds ++ [])).results = [.lit (.bool true)] ∧ (s.fn H (ds ++ [])).args = ds ∧ (s.fn H (ds ++ [])).vars = [])
    (hl : laidOutB C.prog = true) (hts : fn.params.toList.all (fun t => C.prog.readableRec t && decide (t < C.prog.types.size)) = true)
    (walk : ∀ (W : World) (base : Nat) (args : Array Value) (ds : List (DataW H)) (p : List MemPlace),
      (∀ (j : Nat) t v, fn.params[j]? = some t → args[j]? = some v → Value.okWide C.prog W .any base t v) →
      DataW.TrodAll enc C.prog W 0 (fun _ => true) true fn.params.toList args.toList ds p → (∀ x ∈ p, x.block < W.heap.size) →
      (DataW.weightsEach C.prog fn.params.toList ds).all (· ≤ reachBytes) = true →
      Calls C.prog f args W fun e W' => e = .returned (.bool true) ∧ Below W.heap.size W W') :
    ReturnsInHanded {} C os f .any (s.pre6 enc C.prog fn [] false) (s.post enc C.prog fn false true false false) := by
  refine returnsInHanded_of_change_sized own started noInit hfn witness ?_
  intro W base args ds gs before hval hW _ hsz _
  have hW' := hW
  have hlt := hW.lt
  obtain ⟨p, q, hA, hV, rfl, hfz, hnd⟩ := hW
  rw [hvars] at hV
  obtain ⟨rfl, rfl⟩ := trodVars_none hV
  have hlt' : ∀ x ∈ p, x.block < W.heap.size := fun x hx => hlt x (by simp [hx])
  have hsz' : (DataW.weightsEach C.prog fn.params.toList ds).all (· ≤ reachBytes) = true := by
    have e : s.plain.varTypes C.prog = [] := by simp [DataSpec.varTypes, ChangeSpec.plain, hvars]
    rw [e, List.append_nil, List.append_nil] at hsz; exact hsz
  refine (walk W base args ds p hval hA hlt' hsz').mono fun e W' ⟨he, hb⟩ => ?_
  have hlen := trodAll_length hA
  obtain ⟨er, ea, ev⟩ := hs ds hlen
  have ht : ∀ t ∈ fn.params.toList, C.prog.readableRec t = true ∧ t < C.prog.types.size := by
    intro t h
    have := List.all_eq_true.1 hts t h
    simpa using this
  refine ⟨_, he, ds, [], p ++ [], [], p, [], hW', ?_, ?_, ?_, hb.frame _, fun h => by cases h⟩
  · rw [er, hres]
    exact trodAll_mk1 (shut_bool htb true)
  · rw [ea]
    exact below_trodAll hl hb _ ht _ _ _ hA hlt'
  · rw [ev, hvars]
    exact rfl

end Go.Proofs.Ytcjncidahjneaaa

namespace Go.Proofs.Ytcjncidahjneaaa
open Go.RowKit

/-! ### Bytes -/
theorem bvs_getElem? (l : List UInt8) (k : Nat) : (bvs l)[k]? = (l[k]?).map bv := by simp [bvs]
theorem bvs_size (l : List UInt8) : (bvs l).size = l.length := by simp [bvs]
theorem bvs_at {l : List UInt8} {k : Nat} {x : UInt8} (h : l[k]? = some x) : (bvs l)[k]? = some (.int .u8 (x.toNat : Int)) := by rw [bvs_getElem?, h]; rfl
theorem get_some {l : List UInt8} {k : Nat} (h : k < l.length) : l[k]? = some (l.getD k 0) := by simp [h]
theorem bvs_get {l : List UInt8} {k : Nat} (h : k < l.length) : (bvs l)[k]? = some (.int .u8 ((l.getD k 0).toNat : Int)) := bvs_at (get_some h)
theorem bvs_inj {l m : List UInt8} (h : bvs l = bvs m) : l = m := by
  have h' : l.map bv = m.map bv := by simpa [bvs] using h
  refine List.map_inj_right (fun a b h => ?_) |>.1 h'
  simp only [bv, Value.int.injEq, Int.natCast_inj, true_and] at h
  exact UInt8.toNat_inj.1 h

/-- So many noughts. -/
def zs (n : Nat) : List UInt8 := List.replicate n 0
theorem zs_len (n : Nat) : (zs n).length = n := by simp [zs]
@[go_sem] theorem zs_one (n k : Nat) (h : k < n) : (bvs (zs n))[k]? = some (.int .u8 0) := by
  rw [bvs_getElem?, zs, List.getElem?_replicate, if_pos h]; rfl
attribute [irreducible] zs
/-! ### Blocks of a world that is written out -/
/-- A block, under a name that the walk does not open. -/
def blk (w : World) (i : Nat) : Option Obj := w.heap[i]?
@[go_sem] theorem blk_alloc (w : World) (o : Obj) (i : Nat) : blk (w.alloc o) i = if i = w.heap.size then some o else blk w i := by
  show (w.heap.push o)[i]? = _
  rw [Array.getElem?_push]; rfl
@[go_sem] theorem blk_drew (w : World) (i : Nat) : blk w.drew i = blk w i := rfl
@[go_sem] theorem blk_drewN (w : World) (n i : Nat) : blk (w.drewN n) i = blk w i := rfl
@[go_sem] theorem blk_setRow (w : World) (g i : Nat) (cs : Array Value) (h : i ≠ g) : blk (w.setRow g cs) i = blk w i := setRow_other w g i cs h
@[go_sem] theorem blk_setCell (w : World) (a : Addr) (i : Nat) (v : Value) (h : i ≠ a.block) : blk (w.setCell a v) i = blk w i := Below.heap_setCell w a v i h
theorem blk_lt {w : World} {i : Nat} {o : Obj} (h : blk w i = some o) : i < w.heap.size := (Array.getElem?_eq_some_iff.1 h).1
/-- Cells that are each one cell of memory. -/
def ones (vs : Array Value) : Bool := vs.all (·.oneCell')
@[go_sem] theorem ones_bvs (l : List UInt8) : ones (bvs l) = true := by
  simp [ones, bvs]
  intro a _; rfl
@[go_sem] theorem ones_list (l : List Value) : ones l.toArray = l.all (·.oneCell') := by simp [ones]
attribute [go_sem] Value.oneCell'
@[go_sem] theorem drewN_alloc' (w : World) (n : Nat) (o : Obj) : (w.drewN n).alloc o = (w.alloc o).drewN n := rfl
@[go_sem] theorem drewN_setCell' (w : World) (n : Nat) (a : Addr) (v : Value) : (w.drewN n).setCell a v = (w.setCell a v).drewN n := rfl
@[go_sem] theorem drewN_setRow' (w : World) (n : Nat) (g : Nat) (cs : Array Value) : (w.drewN n).setRow g cs = (w.setRow g cs).drewN n := rfl
@[go_sem] theorem drewN_shape' (w : World) (n r : Nat) : (w.drewN n).shape? r = w.shape? r := rfl
@[go_sem] theorem drew_setRow (w : World) (g : Nat) (cs : Array Value) : w.drew.setRow g cs = (w.setRow g cs).drew := rfl
@[go_sem] theorem setRow_alloc_at (w : World) (c cs : Array Value) (t : TypeId) (fr : Nat × Nat) (n : Nat) (hn : n = w.heap.size) : (w.alloc (.cells c t fr)).setRow n cs = w.alloc (.cells cs t fr) := by
  subst hn
  unfold World.setRow World.alloc
  congr 1
  apply Array.ext
  · simp
  · intro k h1 h2
    simp only [Array.getElem_modify, Array.getElem_push]
    simp only [Array.size_modify, Array.size_push] at h1
    by_cases h : k < w.heap.size
    · simp [h]; omega
    · simp [h]; omega
@[go_sem] theorem setRow_alloc_past (w : World) (o : Obj) (cs : Array Value) (n : Nat) (hn : n < w.heap.size) : (w.alloc o).setRow n cs = (w.setRow n cs).alloc o := by
  unfold World.setRow World.alloc
  congr 1
  apply Array.ext
  · simp
  · intro k h1 h2
    simp only [Array.getElem_modify, Array.getElem_push, Array.size_modify]
    simp only [Array.size_modify, Array.size_push] at h1
    by_cases h : k < w.heap.size
    · simp [h]
    · have : n ≠ k := by omega
      simp [h, this]

theorem below_setRow' {B : Nat} {a w : World} (h : Below B a w) {g : Nat} (hg : B ≤ g) (cs : Array Value) : Below B a (w.setRow g cs) :=
  h.trans ⟨rfl, rfl, rfl, by simp, fun k hk => setRow_other w g k cs (by omega)⟩
/-- Behind a call: what was below is as it was since one's own call began. -/
theorem chain {B : Nat} {w W w1 : World} (h : Below B w W) (hB : B ≤ W.heap.size) (hb : Below W.heap.size W w1) : Below B w w1 := h.trans (hb.mono hB)

theorem blk_setRow_same {w : World} {g : Nat} {old : Array Value} {t : TypeId} {fr : Nat × Nat} (h : blk w g = some (.cells old t fr)) (cs : Array Value) : blk (w.setRow g cs) g = some (.cells cs t fr) := setRow_heap w g old cs t fr h

/-- How many cells there are, under a name that the walk does not open. -/
def csz (cs : Array Value) : Nat := cs.size
@[go_sem] theorem Bm (l : List Value) : csz l.toArray = l.length := by simp [csz]
theorem Bg (l : List UInt8) : csz (bvs l) = l.length := bvs_size l
@[go_sem] theorem csz_zs (n : Nat) : csz (bvs (zs n)) = n := by rw [Bg, zs_len]

/-! ### Whole rows -/
/-- Cells with some written over. -/
def splice (c : Array Value) (k : Nat) (vs : Array Value) : Array Value := (c.toList.take k ++ vs.toList ++ c.toList.drop (k + vs.size)).toArray

theorem run_storeCells_at {P : Program} (g off : Nat) (t : TypeId) : ∀ (vs : List Value) (i : Nat) (cur : Array Value) (w : World), w.heap[g]? = some (.cells cur t (0, 0)) → off + i + vs.length ≤ cur.size → (∀ v ∈ vs, v.oneCell' = true) →
    (storeCells ⟨g, off, none⟩ vs i).run P w = .ok () (w.setRow g (splice cur (off + i) vs.toArray))
  | [], i, cur, w, hg, hl, _ => by
    have hlt : g < w.heap.size := (Array.getElem?_eq_some_iff.1 hg).1
    have hv : w.heap[g] = .cells cur t (0, 0) := (Array.getElem?_eq_some_iff.1 hg).2
    have e : splice cur (off + i) ([] : List Value).toArray = cur := by simp [splice]
    rw [e]
    show Result.ok () w = _
    congr 1
    unfold World.setRow
    cases w with
    | mk heap tape drawn os output =>
      congr 1
      apply Array.ext
      · simp
      · intro k h1 h2
        simp only [Array.getElem_modify]
        split
        · rename_i hk; subst hk; simp at hv; simp [hv]
        · rfl
  | v :: rest, i, cur, w, hg, hl, h1 => by
    have hi : off + i < cur.size := by simp at hl; omega
    have hadd : (⟨g, off, none⟩ : Addr).add i = ⟨g, off + i, none⟩ := by unfold Addr.add; split <;> simp_all
    have hcell : w.cell? ⟨g, off + i, none⟩ = some cur[off + i] := by simp [World.cell?, hg, hi]
    have hfro : w.frozen? ⟨g, off + i, none⟩ = false := by simp [World.frozen?, hg]
    have hst : (store ((⟨g, off, none⟩ : Addr).add i) v).run P w = .ok () (w.setRow g (cur.setIfInBounds (off + i) v)) := by
      rw [hadd, run_store P w _ v _ (h1 v (by simp)), hcell]
      simp [hfro, setCell_eq_setRow w g (off + i) cur t (0, 0) v hg]
    have ih := run_storeCells_at (P := P) g off t rest (i + 1) (cur.setIfInBounds (off + i) v) (w.setRow g (cur.setIfInBounds (off + i) v)) (setRow_heap w g cur _ t _ hg) (by simp at hl ⊢; omega) (fun x hx => h1 x (by simp [hx]))
    simp only [storeCells, Sem.run_bind, hst, Result.andThen_ok, ih, setRow_setRow]
    congr 2
    unfold splice
    congr 1
    apply List.ext_getElem?
    intro k
    simp only [Array.toList_setIfInBounds, List.getElem?_append, List.length_take, List.length_set, Array.length_toList, List.length_append, List.getElem?_drop, List.getElem?_set]
    by_cases hk : k < off + i
    · simp [hk, show k < off + (i + 1) by omega, show min (off + (i + 1)) cur.size = off + (i + 1) by omega, show min (off + i) cur.size = off + i by omega, show off + i ≠ k by omega, show k < off + i + (rest.length + 1) by omega, show k < off + (i + 1) + rest.length by omega]
    · by_cases hk2 : k = off + i
      · subst hk2
        simp [show min (off + (i + 1)) cur.size = off + (i + 1) by omega, show min (off + i) cur.size = off + i by omega, show off + i < off + (i + 1) by omega, show off + i < off + (i + 1) + rest.length by omega]
      · have q1 : ¬ k < off + (i + 1) := by omega
        simp only [show min (off + (i + 1)) cur.size = off + (i + 1) by omega, show min (off + i) cur.size = off + i by omega, List.size_toArray, List.length_cons]
        by_cases hk3 : k < off + (i + 1) + rest.length
        · have e1 : k < off + i + (rest.length + 1) := by omega
          simp [hk, q1, hk3, e1, show k - (off + i) = (k - (off + (i + 1))) + 1 by omega]
        · have e1 : ¬ k < off + i + (rest.length + 1) := by omega
          have e2 : k - (off + (i + 1) + rest.length) = k - (off + i + (rest.length + 1)) := by omega
          simp only [hk3, e1, if_false, e2]
          rw [show off + (i + 1) + rest.length + (k - (off + i + (rest.length + 1))) = k by omega, show off + i + (rest.length + 1) + (k - (off + i + (rest.length + 1))) = k by omega]
          simp [show off + i ≠ k by omega]

/-- The type is an array or a struct of n cells. -/
def isRow (P : Program) (t : TypeId) (n : Nat) : Bool :=
  (match P.underlying t with | some (.struct _) | some (.array _ _) => true | _ => false) && (P.info? t).map (·.size) == some n

def slowLoad (P : Program) (t : TypeId) (a : Addr) (w : World) : Result Value := (loadVar t a).run P w
def slowStore (P : Program) (t : TypeId) (a : Addr) (v : Value) (w : World) : Result Unit := (storeVar t a v).run P w
/-- 'loadVar', 'storeVar' at a type of n cells, under a name that the walk does not open. -/
def Bj (t : TypeId) (n : Nat) (a : Addr) : Sem Value := if n = n then loadVar t a else loadVar t a
def Bf (t : TypeId) (n : Nat) (a : Addr) (v : Value) : Sem Unit := if n = n then storeVar t a v else storeVar t a v

/-- The cells from 'off' on. -/
def cut (cs : Array Value) (off n : Nat) : Array Value := if off = 0 ∧ csz cs = n then cs else cs.extract off (off + n)
@[go_sem] theorem Bo (cs : Array Value) (n : Nat) (h : csz cs = n) : cut cs 0 n = cs := by unfold cut; rw [if_pos ⟨rfl, h⟩]
def paste (cs : Array Value) (off : Nat) (vs : Array Value) : Array Value := if off = 0 ∧ csz cs = csz vs then vs else splice cs off vs

@[go_sem] theorem paste_whole (cs vs : Array Value) (h : csz cs = csz vs) : paste cs 0 vs = vs := by unfold paste; rw [if_pos ⟨rfl, h⟩]

@[go_sem] def loadedR (P : Program) (t : TypeId) (n g off : Nat) (w : World) : Result Value := match blk w g with
  | some (.cells cs _ _) => if off + n ≤ csz cs then .ok (.agg (cut cs off n)) w else slowLoad P t ⟨g, off, none⟩ w
  | _ => slowLoad P t ⟨g, off, none⟩ w
@[go_sem] def storedR (P : Program) (t : TypeId) (n g off : Nat) (vs : Array Value) (w : World) : Result Unit := match blk w g with
  | some (.cells cs _ (0, 0)) => if csz vs = n ∧ off + n ≤ csz cs ∧ ones vs = true then .ok () (w.setRow g (paste cs off vs)) else slowStore P t ⟨g, off, none⟩ (.agg vs) w
  | _ => slowStore P t ⟨g, off, none⟩ (.agg vs) w

theorem run_loadVarR {P : Program} {t : TypeId} {n : Nat} (h : isRow P t n = true) (g off : Nat) (w : World) :
    (Bj t n ⟨g, off, none⟩).run P w = loadedR P t n g off w := by
  unfold loadedR
  unfold Bj
  rw [if_pos rfl]
  split
  · rename_i cs e fr hg
    split
    · rename_i hsz
      simp only [isRow, Bool.and_eq_true, beq_iff_eq] at h
      simp only [csz] at hsz
      have hl : (loadCells ⟨g, off, none⟩ n).run P w = .ok (cut cs off n) w := by
        have := run_loadCells (P := P) w ⟨g, off, none⟩ n (fun j => cs.getD (off + j) undef) (fun j hj => by
          have hadd : (⟨g, off, none⟩ : Addr).add j = ⟨g, off + j, none⟩ := by unfold Addr.add; split <;> simp_all
          rw [hadd, cell_of_row w g (off + j) cs e fr hg, Array.getElem?_eq_getElem (by omega)]
          simp [Array.getD, show off + j < cs.size by omega])
        rw [this]
        congr 1
        have key : ((List.range n).map fun j => cs.getD (off + j) undef).toArray = cs.extract off (off + n) := by
          apply Array.ext
          · simp; omega
          · intro i h1 h2
            simp at h1
            simp [Array.getD, show off + i < cs.size by omega]
        rw [key]
        unfold cut csz
        split
        · rename_i hc
          obtain ⟨rfl, rfl⟩ := hc
          simp
        · rfl
      cases hq : P.info? t with
      | none => simp [hq] at h
      | some i =>
        have hs : i.size = n := by simpa [hq] using h.2
        have hagg : (isAgg t).run P w = .ok true w := by
          unfold isAgg
          cases hu : P.underlying t with
          | none => simp [hu] at h
          | some d =>
            rw [Sem.run_bind, run_underlying hu w]
            simp only [hu] at h
            cases d <;> simp_all
        simp [loadVar, Sem.run_bind, hagg, sizeOf, typeInfo, hq, hs, hl]
    · rfl
  · rfl

theorem run_storeVarR {P : Program} {t : TypeId} {n : Nat} (h : isRow P t n = true) (g off : Nat) (vs : Array Value) (w : World) :
    (Bf t n ⟨g, off, none⟩ (.agg vs)).run P w = storedR P t n g off vs w := by
  unfold storedR
  unfold Bf
  rw [if_pos rfl]
  split
  · rename_i cs e hg
    split
    · rename_i hsz
      simp only [csz] at hsz
      obtain ⟨h1, h2, h3⟩ := hsz
      simp only [isRow, Bool.and_eq_true, beq_iff_eq] at h
      have := run_storeCells_at (P := P) g off e vs.toList 0 cs w hg (by simp; omega) (fun v hv => (Array.all_eq_true_iff_forall_mem.1 h3) v (by simpa using hv))
      have e2 : splice cs (off + 0) vs.toList.toArray = paste cs off vs := by
        unfold paste csz
        split
        · rename_i hc
          obtain ⟨rfl, hc⟩ := hc
          simp [splice, ← hc, List.drop_of_length_le]
        · simp
      rw [e2] at this
      cases hq : P.info? t with
      | none => simp [hq] at h
      | some i =>
        have hs : n = i.size := by have := h.2; simp [hq] at this; omega
        simp [storeVar, sizeOf, typeInfo, hq, Value.cells, h1, hs, this]
    · rfl
  · rfl

/-! ### A region that draws its order, whose operations read and call what turns nothing below -/
/-- All worlds in which nothing has turned since W. -/
def Cls (W : World) : World → Prop := fun w' => Below W.heap.size W w'
theorem Cls.step {W w1 w2 : World} (h : Cls W w1) (hb : Below w1.heap.size w1 w2) : Cls W w2 := chain h h.size hb
theorem Cls.call {P : Program} {W w1 : World} (h : Cls W w1) {f : FuncId} {args : Array Value} {v : Value} (hc : Calls P f args w1 fun e w' => e = .returned v ∧ Below w1.heap.size w1 w') :
    Calls P f args w1 fun e w' => e = .returned v ∧ Cls W w' := hc.mono fun _ _ ⟨he, hb⟩ => ⟨he, h.step hb⟩
/-! ### Arrays of bytes: one of them, and two of them held side by side -/
/-- The type is an array of n bytes. -/
def isBytes (P : Program) (t : TypeId) (n : Nat) : Bool :=
  match P.underlying t with
  | some (.array m e) => m == n && (match P.underlying e with | some (.int .u8) => true | _ => false) && (P.info? e).map (·.size) == some 1
  | _ => false
theorem isBytes_iff {P : Program} {t n : Nat} (h : isBytes P t n = true) : ∃ e, P.underlying t = some (.array n e) ∧ P.underlying e = some (.int .u8) ∧ (P.info? e).map (·.size) = some 1 := by
  unfold isBytes at h
  cases hu : P.underlying t with
  | none => simp [hu] at h
  | some d =>
    cases d <;> simp [hu] at h
    rename_i m e
    refine ⟨e, ?_, ?_, ?_⟩
    · rw [h.1.1]
    · have := h.1.2
      split at this <;> simp_all
    · simpa using h.2

theorem run_part_one {P : Program} {e : TypeId} {k : IntKind} (he : P.underlying e = some (.int k)) (cs : Array Value) (i : Nat) (v : Value) (hv : cs[i]? = some v) (w : World) : (part e cs i).run P w = .ok v w := by
  have hagg : (isAgg e).run P w = .ok false w := by
    unfold isAgg
    rw [Sem.run_bind, run_underlying he w]
    simp
  simp [part, Sem.run_bind, hagg, hv]

theorem run_sizeOf {P : Program} {e n : Nat} (h : (P.info? e).map (·.size) = some n) (w : World) : (sizeOf e).run P w = .ok n w := by
  cases hq : P.info? e with
  | none => simp [hq] at h
  | some i => simp [hq] at h; simp [sizeOf, typeInfo, hq, h]

theorem run_index_bytes {P : Program} {t n : Nat} (h : isBytes P t n = true) (cs : Array Value) (k : IntKind) (i : Int) (v : Value) (h0 : 0 ≤ i) (h1 : i < n) (hv : cs[i.toNat]? = some v) (w : World) :
    (Instr.index t (.agg cs) (.int k i)).run P w = .ok v w := by
  obtain ⟨e, hu, he, hs⟩ := isBytes_iff h
  simp [Instr.index, asIntOf, run_underlying hu, h0, h1, run_sizeOf hs, run_part_one he cs i.toNat v hv]

def slowIndex (P : Program) (t : TypeId) (x i : Value) (w : World) : Result Value := (Instr.index t x i).run P w
@[go_sem] def indexedB (P : Program) (t n : Nat) (cs : Array Value) (k : IntKind) (i : Int) (w : World) : Result Value :=
  if 0 ≤ i ∧ i < n then match cs[i.toNat]? with | some v => .ok v w | none => slowIndex P t (.agg cs) (.int k i) w else slowIndex P t (.agg cs) (.int k i) w
theorem run_indexB {P : Program} {t n : Nat} (h : isBytes P t n = true) (cs : Array Value) (k : IntKind) (i : Int) (w : World) : (Instr.index t (.agg cs) (.int k i)).run P w = indexedB P t n cs k i w := by
  unfold indexedB
  split
  · rename_i hi
    split
    · rename_i v hv; exact run_index_bytes h cs k i v hi.1 hi.2 hv w
    · rfl
  · rfl

theorem run_equalIn_rows {P : Program} {t n e : Nat} (hu : P.underlying t = some (.array n e)) (hs : (P.info? e).map (·.size) = some 1) (he : P.underlying e = some (.int .u8)) (d : Nat)
    (hin : ∀ (a b : Int) (w : World), (Op.equalIn d e (.int .u8 a) (.int .u8 b)).run P w = .ok (a == b) w) (l m : List UInt8) (hl : l.length = n) (hm : m.length = n) (w : World) :
    (Op.equalIn (d + 1) t (.agg (bvs l)) (.agg (bvs m))).run P w = .ok (l == m) w := by
  simp only [Op.equalIn, Sem.run_bind, run_underlying hu, Result.andThen_ok, run_sizeOf hs, Std.Legacy.Range.forIn_eq_forIn_range', Std.Legacy.Range.size, Nat.sub_zero, Nat.add_sub_cancel, Nat.div_one, Nat.mul_one]
  have key : ∀ (r k : Nat), k + r = n → l.take k = m.take k → (l == m) = (l.drop k == m.drop k) := by
    intro r k _ h
    rw [Bool.eq_iff_iff]
    simp only [beq_iff_eq]
    constructor
    · intro h; rw [h]
    · intro h'; rw [← List.take_append_drop k l, ← List.take_append_drop k m, h, h']
  generalize hL0 : List.range' 0 n = L
  obtain ⟨k, r, hk, ht, hL⟩ : ∃ k r, k + r = n ∧ l.take k = m.take k ∧ L = List.range' k r := ⟨0, n, by omega, rfl, hL0.symm⟩
  clear hL0
  induction r generalizing k L w with
  | zero =>
    have e1 := key 0 k hk ht
    rw [List.drop_of_length_le (by omega), List.drop_of_length_le (by omega)] at e1
    rw [e1, hL]
    simp
  | succ r ih =>
    rw [hL]
    have hkl : k < l.length := by omega
    have hkm : k < m.length := by omega
    have p1 := run_part_one (P := P) he (bvs l) k _ (bvs_get hkl) w
    have p2 := run_part_one (P := P) he (bvs m) k _ (bvs_get hkm) w
    have g1 : l.getD k 0 = l[k] := by simp [hkl]
    have g2 : m.getD k 0 = m[k] := by simp [hkm]
    simp only [List.range'_succ, List.forIn_cons, Sem.run_bind, p1, p2, Result.andThen_ok, hin]
    by_cases hq : l[k] = m[k]
    · have q1 : (!(((l.getD k 0).toNat : Int) == ((m.getD k 0).toNat : Int))) = true ↔ False := by rw [g1, g2, hq]; simp
      simp only [q1, if_false, Sem.run_pure, Result.andThen_ok]
      refine ih w _ (k + 1) (by omega) ?_ rfl
      rw [List.take_succ_eq_append_getElem hkl, List.take_succ_eq_append_getElem hkm, ht, hq]
    · have q1 : (!(((l.getD k 0).toNat : Int) == ((m.getD k 0).toNat : Int))) = true := by
        rw [g1, g2]
        simp only [Bool.not_eq_true', beq_eq_false_iff_ne, ne_eq, Int.natCast_inj]
        exact fun h => hq (UInt8.toNat_inj.1 h)
      simp only [q1, if_true, Sem.run_pure, Result.andThen_ok]
      have : (l == m) = false := by
        rw [beq_eq_false_iff_ne]
        intro h
        subst h
        exact hq rfl
      rw [this]

theorem run_equalIn_bytes {P : Program} {t n : Nat} (h : isBytes P t n = true) (l m : List UInt8) (hl : csz (bvs l) = n) (hm : csz (bvs m) = n) (w : World) :
    (Op.equalIn 10000 t (.agg (bvs l)) (.agg (bvs m))).run P w = .ok (l == m) w := by
  obtain ⟨e, hu, he, hs⟩ := isBytes_iff h
  exact run_equalIn_rows hu hs he 9999 (fun a b w => run_equalIn_int w 9998 e .u8 .u8 a b he) l m (by rw [← Bg, hl]) (by rw [← Bg, hm]) w

/-- What is known of a slice type's elements: how many cells and bytes one has. -/
def elemB (P : Program) (t e size bytes : Nat) : Bool :=
  (match P.underlying t with | some (.slice e') => e' == e | _ => false) && (match P.info? e with
    | some i => i.size == size && i.bytes == bytes && (match i.zero with | some z => z.cells.size == size | none => false)
    | none => false) && decide (0 < size)
theorem elemB_iff {P : Program} {t e size bytes : Nat} (h : elemB P t e size bytes = true) :
    P.underlying t = some (.slice e) ∧ ∃ i z, P.info? e = some i ∧ i.zero = some z ∧ i.size = size ∧ i.bytes = bytes ∧ z.cells.size = size ∧ 0 < size := by
  unfold elemB at h
  simp only [Bool.and_eq_true, decide_eq_true_eq] at h
  obtain ⟨⟨h1, h2⟩, h3⟩ := h
  refine ⟨?_, ?_⟩
  · cases hu : P.underlying t with
    | none => simp [hu] at h1
    | some d =>
      cases d <;> simp [hu] at h1
      subst h1; rfl
  · cases hi : P.info? e with
    | none => simp [hi] at h2
    | some i =>
      cases hz : i.zero with
      | none => simp [hi, hz] at h2
      | some z =>
        simp [hi, hz] at h2
        exact ⟨i, z, rfl, hz, h2.1.1, h2.1.2, h2.2, h3⟩

/-- The end of a function whose one result is an array or a struct that lies in a cell. -/
theorem post_cell {P : Program} {fn : Func} {p ty n : Nat} (hres : fn.results = #[.cell p ty]) (hr : isRow P ty n = true) {R : Ending → World → Prop} {a : Act} {w : World} {e : Exit} (he : e = .ret ∨ e = .normal)
    (g : Nat) (cs : Array Value) (t : TypeId) (fr : Nat × Nat) (hp : a.tmps.getD p undef = .pointer (some ⟨g, 0, none⟩)) (hd : a.defers = []) (hg : blk w g = some (.cells cs t fr)) (hs : cs.size = n) (hR : R (.returned (.agg cs)) w) :
    bodyPost P fn R e a w := by
  have h1 : (results fn a.tmps).run P w = .ok (.agg cs) w := by
    simp only [isRow, Bool.and_eq_true, beq_iff_eq] at hr
    cases hu : P.underlying ty with
    | none => simp [hu] at hr
    | some d =>
      simp only [hu] at hr
      refine results_cell_row hres a.tmps w g t cs fr d hp hg hu ?_ (by rw [hr.2, hs])
      cases d <;> simp_all
  rcases he with rfl | rfl
  · exact bodyPost_ret h1 hd hR
  · exact bodyPost_end h1 hd hR

end Go.Proofs.Ytcjncidahjneaaa

namespace Go.Proofs.Ytcjncidahjneaaa
open Go.RowKit

@[go_sem ↓] theorem loadVar_7 (a : Addr) : loadVar 7 a = Bj 7 4 a := by unfold Bj; rw [if_pos rfl]
@[go_sem ↓] theorem storeVar_7 (a : Addr) (v : Value) : storeVar 7 a v = Bf 7 4 a v := by unfold Bf; rw [if_pos rfl]
theorem isRow_7 : isRow Try.prog 7 4 = true := by kernel_rfl
@[go_sem] theorem run_loadVar_7 (g off : Nat) (w : World) : (Bj 7 4 ⟨g, off, none⟩).run Try.prog w = loadedR Try.prog 7 4 g off w := run_loadVarR isRow_7 g off w
@[go_sem] theorem run_storeVar_7 (g off : Nat) (vs : Array Value) (w : World) : (Bf 7 4 ⟨g, off, none⟩ (.agg vs)).run Try.prog w = storedR Try.prog 7 4 g off vs w := run_storeVarR isRow_7 g off vs w

@[go_sem ↓] theorem loadVar_8 (a : Addr) : loadVar 8 a = Bj 8 4 a := by unfold Bj; rw [if_pos rfl]
@[go_sem ↓] theorem storeVar_8 (a : Addr) (v : Value) : storeVar 8 a v = Bf 8 4 a v := by unfold Bf; rw [if_pos rfl]
theorem isRow_8 : isRow Try.prog 8 4 = true := by kernel_rfl
@[go_sem] theorem run_loadVar_8 (g off : Nat) (w : World) : (Bj 8 4 ⟨g, off, none⟩).run Try.prog w = loadedR Try.prog 8 4 g off w := run_loadVarR isRow_8 g off w
@[go_sem] theorem run_storeVar_8 (g off : Nat) (vs : Array Value) (w : World) : (Bf 8 4 ⟨g, off, none⟩ (.agg vs)).run Try.prog w = storedR Try.prog 8 4 g off vs w := run_storeVarR isRow_8 g off vs w

@[go_sem ↓] theorem loadVar_13 (a : Addr) : loadVar 13 a = Bj 13 2 a := by unfold Bj; rw [if_pos rfl]
@[go_sem ↓] theorem storeVar_13 (a : Addr) (v : Value) : storeVar 13 a v = Bf 13 2 a v := by unfold Bf; rw [if_pos rfl]
theorem isRow_13 : isRow Try.prog 13 2 = true := by kernel_rfl
@[go_sem] theorem run_loadVar_13 (g off : Nat) (w : World) : (Bj 13 2 ⟨g, off, none⟩).run Try.prog w = loadedR Try.prog 13 2 g off w := run_loadVarR isRow_13 g off w
@[go_sem] theorem run_storeVar_13 (g off : Nat) (vs : Array Value) (w : World) : (Bf 13 2 ⟨g, off, none⟩ (.agg vs)).run Try.prog w = storedR Try.prog 13 2 g off vs w := run_storeVarR isRow_13 g off vs w

@[go_sem ↓] theorem loadVar_14 (a : Addr) : loadVar 14 a = Bj 14 2 a := by unfold Bj; rw [if_pos rfl]
@[go_sem ↓] theorem storeVar_14 (a : Addr) (v : Value) : storeVar 14 a v = Bf 14 2 a v := by unfold Bf; rw [if_pos rfl]
theorem isRow_14 : isRow Try.prog 14 2 = true := by kernel_rfl
@[go_sem] theorem run_loadVar_14 (g off : Nat) (w : World) : (Bj 14 2 ⟨g, off, none⟩).run Try.prog w = loadedR Try.prog 14 2 g off w := run_loadVarR isRow_14 g off w
@[go_sem] theorem run_storeVar_14 (g off : Nat) (vs : Array Value) (w : World) : (Bf 14 2 ⟨g, off, none⟩ (.agg vs)).run Try.prog w = storedR Try.prog 14 2 g off vs w := run_storeVarR isRow_14 g off vs w

@[go_sem ↓] theorem loadVar_18 (a : Addr) : loadVar 18 a = Bj 18 1 a := by unfold Bj; rw [if_pos rfl]
@[go_sem ↓] theorem storeVar_18 (a : Addr) (v : Value) : storeVar 18 a v = Bf 18 1 a v := by unfold Bf; rw [if_pos rfl]
theorem isRow_18 : isRow Try.prog 18 1 = true := by kernel_rfl
@[go_sem] theorem run_loadVar_18 (g off : Nat) (w : World) : (Bj 18 1 ⟨g, off, none⟩).run Try.prog w = loadedR Try.prog 18 1 g off w := run_loadVarR isRow_18 g off w
@[go_sem] theorem run_storeVar_18 (g off : Nat) (vs : Array Value) (w : World) : (Bf 18 1 ⟨g, off, none⟩ (.agg vs)).run Try.prog w = storedR Try.prog 18 1 g off vs w := run_storeVarR isRow_18 g off vs w

@[go_sem ↓] theorem loadVar_19 (a : Addr) : loadVar 19 a = Bj 19 1 a := by unfold Bj; rw [if_pos rfl]
@[go_sem ↓] theorem storeVar_19 (a : Addr) (v : Value) : storeVar 19 a v = Bf 19 1 a v := by unfold Bf; rw [if_pos rfl]
theorem isRow_19 : isRow Try.prog 19 1 = true := by kernel_rfl
@[go_sem] theorem run_loadVar_19 (g off : Nat) (w : World) : (Bj 19 1 ⟨g, off, none⟩).run Try.prog w = loadedR Try.prog 19 1 g off w := run_loadVarR isRow_19 g off w
@[go_sem] theorem run_storeVar_19 (g off : Nat) (vs : Array Value) (w : World) : (Bf 19 1 ⟨g, off, none⟩ (.agg vs)).run Try.prog w = storedR Try.prog 19 1 g off vs w := run_storeVarR isRow_19 g off vs w

@[go_sem ↓] theorem loadVar_23 (a : Addr) : loadVar 23 a = Bj 23 32 a := by unfold Bj; rw [if_pos rfl]
@[go_sem ↓] theorem storeVar_23 (a : Addr) (v : Value) : storeVar 23 a v = Bf 23 32 a v := by unfold Bf; rw [if_pos rfl]
theorem isRow_23 : isRow Try.prog 23 32 = true := by kernel_rfl
@[go_sem] theorem run_loadVar_23 (g off : Nat) (w : World) : (Bj 23 32 ⟨g, off, none⟩).run Try.prog w = loadedR Try.prog 23 32 g off w := run_loadVarR isRow_23 g off w
@[go_sem] theorem run_storeVar_23 (g off : Nat) (vs : Array Value) (w : World) : (Bf 23 32 ⟨g, off, none⟩ (.agg vs)).run Try.prog w = storedR Try.prog 23 32 g off vs w := run_storeVarR isRow_23 g off vs w
theorem isBytes_23 : isBytes Try.prog 23 32 = true := by kernel_rfl
@[go_sem] theorem run_index_23 (cs : Array Value) (k : IntKind) (i : Int) (w : World) : (Instr.index 23 (.agg cs) (.int k i)).run Try.prog w = indexedB Try.prog 23 32 cs k i w := run_indexB isBytes_23 cs k i w
@[go_sem] theorem run_equalIn_23 (l m : List UInt8) (hl : csz (bvs l) = 32) (hm : csz (bvs m) = 32) (w : World) : (Op.equalIn 10000 23 (.agg (bvs l)) (.agg (bvs m))).run Try.prog w = .ok (l == m) w := run_equalIn_bytes isBytes_23 l m hl hm w

@[go_sem ↓] theorem loadVar_24 (a : Addr) : loadVar 24 a = Bj 24 32 a := by unfold Bj; rw [if_pos rfl]
@[go_sem ↓] theorem storeVar_24 (a : Addr) (v : Value) : storeVar 24 a v = Bf 24 32 a v := by unfold Bf; rw [if_pos rfl]
theorem isRow_24 : isRow Try.prog 24 32 = true := by kernel_rfl
@[go_sem] theorem run_loadVar_24 (g off : Nat) (w : World) : (Bj 24 32 ⟨g, off, none⟩).run Try.prog w = loadedR Try.prog 24 32 g off w := run_loadVarR isRow_24 g off w
@[go_sem] theorem run_storeVar_24 (g off : Nat) (vs : Array Value) (w : World) : (Bf 24 32 ⟨g, off, none⟩ (.agg vs)).run Try.prog w = storedR Try.prog 24 32 g off vs w := run_storeVarR isRow_24 g off vs w
theorem isBytes_24 : isBytes Try.prog 24 32 = true := by kernel_rfl
@[go_sem] theorem run_index_24 (cs : Array Value) (k : IntKind) (i : Int) (w : World) : (Instr.index 24 (.agg cs) (.int k i)).run Try.prog w = indexedB Try.prog 24 32 cs k i w := run_indexB isBytes_24 cs k i w
@[go_sem] theorem run_equalIn_24 (l m : List UInt8) (hl : csz (bvs l) = 32) (hm : csz (bvs m) = 32) (w : World) : (Op.equalIn 10000 24 (.agg (bvs l)) (.agg (bvs m))).run Try.prog w = .ok (l == m) w := run_equalIn_bytes isBytes_24 l m hl hm w

@[go_sem ↓] theorem loadVar_25 (a : Addr) : loadVar 25 a = Bj 25 64 a := by unfold Bj; rw [if_pos rfl]
@[go_sem ↓] theorem storeVar_25 (a : Addr) (v : Value) : storeVar 25 a v = Bf 25 64 a v := by unfold Bf; rw [if_pos rfl]
theorem isRow_25 : isRow Try.prog 25 64 = true := by kernel_rfl
@[go_sem] theorem run_loadVar_25 (g off : Nat) (w : World) : (Bj 25 64 ⟨g, off, none⟩).run Try.prog w = loadedR Try.prog 25 64 g off w := run_loadVarR isRow_25 g off w
@[go_sem] theorem run_storeVar_25 (g off : Nat) (vs : Array Value) (w : World) : (Bf 25 64 ⟨g, off, none⟩ (.agg vs)).run Try.prog w = storedR Try.prog 25 64 g off vs w := run_storeVarR isRow_25 g off vs w

@[go_sem ↓] theorem loadVar_26 (a : Addr) : loadVar 26 a = Bj 26 24 a := by unfold Bj; rw [if_pos rfl]
@[go_sem ↓] theorem storeVar_26 (a : Addr) (v : Value) : storeVar 26 a v = Bf 26 24 a v := by unfold Bf; rw [if_pos rfl]
theorem isRow_26 : isRow Try.prog 26 24 = true := by kernel_rfl
@[go_sem] theorem run_loadVar_26 (g off : Nat) (w : World) : (Bj 26 24 ⟨g, off, none⟩).run Try.prog w = loadedR Try.prog 26 24 g off w := run_loadVarR isRow_26 g off w
@[go_sem] theorem run_storeVar_26 (g off : Nat) (vs : Array Value) (w : World) : (Bf 26 24 ⟨g, off, none⟩ (.agg vs)).run Try.prog w = storedR Try.prog 26 24 g off vs w := run_storeVarR isRow_26 g off vs w
theorem isBytes_26 : isBytes Try.prog 26 24 = true := by kernel_rfl
@[go_sem] theorem run_index_26 (cs : Array Value) (k : IntKind) (i : Int) (w : World) : (Instr.index 26 (.agg cs) (.int k i)).run Try.prog w = indexedB Try.prog 26 24 cs k i w := run_indexB isBytes_26 cs k i w
@[go_sem] theorem run_equalIn_26 (l m : List UInt8) (hl : csz (bvs l) = 24) (hm : csz (bvs m) = 24) (w : World) : (Op.equalIn 10000 26 (.agg (bvs l)) (.agg (bvs m))).run Try.prog w = .ok (l == m) w := run_equalIn_bytes isBytes_26 l m hl hm w

@[go_sem ↓] theorem loadVar_27 (a : Addr) : loadVar 27 a = Bj 27 89 a := by unfold Bj; rw [if_pos rfl]
@[go_sem ↓] theorem storeVar_27 (a : Addr) (v : Value) : storeVar 27 a v = Bf 27 89 a v := by unfold Bf; rw [if_pos rfl]
theorem isRow_27 : isRow Try.prog 27 89 = true := by kernel_rfl
@[go_sem] theorem run_loadVar_27 (g off : Nat) (w : World) : (Bj 27 89 ⟨g, off, none⟩).run Try.prog w = loadedR Try.prog 27 89 g off w := run_loadVarR isRow_27 g off w
@[go_sem] theorem run_storeVar_27 (g off : Nat) (vs : Array Value) (w : World) : (Bf 27 89 ⟨g, off, none⟩ (.agg vs)).run Try.prog w = storedR Try.prog 27 89 g off vs w := run_storeVarR isRow_27 g off vs w

@[go_sem ↓] theorem loadVar_28 (a : Addr) : loadVar 28 a = Bj 28 89 a := by unfold Bj; rw [if_pos rfl]
@[go_sem ↓] theorem storeVar_28 (a : Addr) (v : Value) : storeVar 28 a v = Bf 28 89 a v := by unfold Bf; rw [if_pos rfl]
theorem isRow_28 : isRow Try.prog 28 89 = true := by kernel_rfl
@[go_sem] theorem run_loadVar_28 (g off : Nat) (w : World) : (Bj 28 89 ⟨g, off, none⟩).run Try.prog w = loadedR Try.prog 28 89 g off w := run_loadVarR isRow_28 g off w
@[go_sem] theorem run_storeVar_28 (g off : Nat) (vs : Array Value) (w : World) : (Bf 28 89 ⟨g, off, none⟩ (.agg vs)).run Try.prog w = storedR Try.prog 28 89 g off vs w := run_storeVarR isRow_28 g off vs w

@[go_sem ↓] theorem loadVar_29 (a : Addr) : loadVar 29 a = Bj 29 128 a := by unfold Bj; rw [if_pos rfl]
@[go_sem ↓] theorem storeVar_29 (a : Addr) (v : Value) : storeVar 29 a v = Bf 29 128 a v := by unfold Bf; rw [if_pos rfl]
theorem isRow_29 : isRow Try.prog 29 128 = true := by kernel_rfl
@[go_sem] theorem run_loadVar_29 (g off : Nat) (w : World) : (Bj 29 128 ⟨g, off, none⟩).run Try.prog w = loadedR Try.prog 29 128 g off w := run_loadVarR isRow_29 g off w
@[go_sem] theorem run_storeVar_29 (g off : Nat) (vs : Array Value) (w : World) : (Bf 29 128 ⟨g, off, none⟩ (.agg vs)).run Try.prog w = storedR Try.prog 29 128 g off vs w := run_storeVarR isRow_29 g off vs w
theorem isBytes_29 : isBytes Try.prog 29 128 = true := by kernel_rfl
@[go_sem] theorem run_index_29 (cs : Array Value) (k : IntKind) (i : Int) (w : World) : (Instr.index 29 (.agg cs) (.int k i)).run Try.prog w = indexedB Try.prog 29 128 cs k i w := run_indexB isBytes_29 cs k i w
@[go_sem] theorem run_equalIn_29 (l m : List UInt8) (hl : csz (bvs l) = 128) (hm : csz (bvs m) = 128) (w : World) : (Op.equalIn 10000 29 (.agg (bvs l)) (.agg (bvs m))).run Try.prog w = .ok (l == m) w := run_equalIn_bytes isBytes_29 l m hl hm w

@[go_sem ↓] theorem loadVar_30 (a : Addr) : loadVar 30 a = Bj 30 128 a := by unfold Bj; rw [if_pos rfl]
@[go_sem ↓] theorem storeVar_30 (a : Addr) (v : Value) : storeVar 30 a v = Bf 30 128 a v := by unfold Bf; rw [if_pos rfl]
theorem isRow_30 : isRow Try.prog 30 128 = true := by kernel_rfl
@[go_sem] theorem run_loadVar_30 (g off : Nat) (w : World) : (Bj 30 128 ⟨g, off, none⟩).run Try.prog w = loadedR Try.prog 30 128 g off w := run_loadVarR isRow_30 g off w
@[go_sem] theorem run_storeVar_30 (g off : Nat) (vs : Array Value) (w : World) : (Bf 30 128 ⟨g, off, none⟩ (.agg vs)).run Try.prog w = storedR Try.prog 30 128 g off vs w := run_storeVarR isRow_30 g off vs w
theorem isBytes_30 : isBytes Try.prog 30 128 = true := by kernel_rfl
@[go_sem] theorem run_index_30 (cs : Array Value) (k : IntKind) (i : Int) (w : World) : (Instr.index 30 (.agg cs) (.int k i)).run Try.prog w = indexedB Try.prog 30 128 cs k i w := run_indexB isBytes_30 cs k i w
@[go_sem] theorem run_equalIn_30 (l m : List UInt8) (hl : csz (bvs l) = 128) (hm : csz (bvs m) = 128) (w : World) : (Op.equalIn 10000 30 (.agg (bvs l)) (.agg (bvs m))).run Try.prog w = .ok (l == m) w := run_equalIn_bytes isBytes_30 l m hl hm w

@[go_sem ↓] theorem loadVar_65 (a : Addr) : loadVar 65 a = Bj 65 4 a := by unfold Bj; rw [if_pos rfl]
@[go_sem ↓] theorem storeVar_65 (a : Addr) (v : Value) : storeVar 65 a v = Bf 65 4 a v := by unfold Bf; rw [if_pos rfl]
theorem isRow_65 : isRow Try.prog 65 4 = true := by kernel_rfl
@[go_sem] theorem run_loadVar_65 (g off : Nat) (w : World) : (Bj 65 4 ⟨g, off, none⟩).run Try.prog w = loadedR Try.prog 65 4 g off w := run_loadVarR isRow_65 g off w
@[go_sem] theorem run_storeVar_65 (g off : Nat) (vs : Array Value) (w : World) : (Bf 65 4 ⟨g, off, none⟩ (.agg vs)).run Try.prog w = storedR Try.prog 65 4 g off vs w := run_storeVarR isRow_65 g off vs w

@[go_sem ↓] theorem loadVar_66 (a : Addr) : loadVar 66 a = Bj 66 4 a := by unfold Bj; rw [if_pos rfl]
@[go_sem ↓] theorem storeVar_66 (a : Addr) (v : Value) : storeVar 66 a v = Bf 66 4 a v := by unfold Bf; rw [if_pos rfl]
theorem isRow_66 : isRow Try.prog 66 4 = true := by kernel_rfl
@[go_sem] theorem run_loadVar_66 (g off : Nat) (w : World) : (Bj 66 4 ⟨g, off, none⟩).run Try.prog w = loadedR Try.prog 66 4 g off w := run_loadVarR isRow_66 g off w
@[go_sem] theorem run_storeVar_66 (g off : Nat) (vs : Array Value) (w : World) : (Bf 66 4 ⟨g, off, none⟩ (.agg vs)).run Try.prog w = storedR Try.prog 66 4 g off vs w := run_storeVarR isRow_66 g off vs w

@[go_sem ↓] theorem loadVar_69 (a : Addr) : loadVar 69 a = Bj 69 129 a := by unfold Bj; rw [if_pos rfl]
@[go_sem ↓] theorem storeVar_69 (a : Addr) (v : Value) : storeVar 69 a v = Bf 69 129 a v := by unfold Bf; rw [if_pos rfl]
theorem isRow_69 : isRow Try.prog 69 129 = true := by kernel_rfl
@[go_sem] theorem run_loadVar_69 (g off : Nat) (w : World) : (Bj 69 129 ⟨g, off, none⟩).run Try.prog w = loadedR Try.prog 69 129 g off w := run_loadVarR isRow_69 g off w
@[go_sem] theorem run_storeVar_69 (g off : Nat) (vs : Array Value) (w : World) : (Bf 69 129 ⟨g, off, none⟩ (.agg vs)).run Try.prog w = storedR Try.prog 69 129 g off vs w := run_storeVarR isRow_69 g off vs w

@[go_sem ↓] theorem loadVar_70 (a : Addr) : loadVar 70 a = Bj 70 129 a := by unfold Bj; rw [if_pos rfl]
@[go_sem ↓] theorem storeVar_70 (a : Addr) (v : Value) : storeVar 70 a v = Bf 70 129 a v := by unfold Bf; rw [if_pos rfl]
theorem isRow_70 : isRow Try.prog 70 129 = true := by kernel_rfl
@[go_sem] theorem run_loadVar_70 (g off : Nat) (w : World) : (Bj 70 129 ⟨g, off, none⟩).run Try.prog w = loadedR Try.prog 70 129 g off w := run_loadVarR isRow_70 g off w
@[go_sem] theorem run_storeVar_70 (g off : Nat) (vs : Array Value) (w : World) : (Bf 70 129 ⟨g, off, none⟩ (.agg vs)).run Try.prog w = storedR Try.prog 70 129 g off vs w := run_storeVarR isRow_70 g off vs w

@[go_sem ↓] theorem loadVar_73 (a : Addr) : loadVar 73 a = Bj 73 4 a := by unfold Bj; rw [if_pos rfl]
@[go_sem ↓] theorem storeVar_73 (a : Addr) (v : Value) : storeVar 73 a v = Bf 73 4 a v := by unfold Bf; rw [if_pos rfl]
theorem isRow_73 : isRow Try.prog 73 4 = true := by kernel_rfl
@[go_sem] theorem run_loadVar_73 (g off : Nat) (w : World) : (Bj 73 4 ⟨g, off, none⟩).run Try.prog w = loadedR Try.prog 73 4 g off w := run_loadVarR isRow_73 g off w
@[go_sem] theorem run_storeVar_73 (g off : Nat) (vs : Array Value) (w : World) : (Bf 73 4 ⟨g, off, none⟩ (.agg vs)).run Try.prog w = storedR Try.prog 73 4 g off vs w := run_storeVarR isRow_73 g off vs w

@[go_sem ↓] theorem loadVar_74 (a : Addr) : loadVar 74 a = Bj 74 4 a := by unfold Bj; rw [if_pos rfl]
@[go_sem ↓] theorem storeVar_74 (a : Addr) (v : Value) : storeVar 74 a v = Bf 74 4 a v := by unfold Bf; rw [if_pos rfl]
theorem isRow_74 : isRow Try.prog 74 4 = true := by kernel_rfl
@[go_sem] theorem run_loadVar_74 (g off : Nat) (w : World) : (Bj 74 4 ⟨g, off, none⟩).run Try.prog w = loadedR Try.prog 74 4 g off w := run_loadVarR isRow_74 g off w
@[go_sem] theorem run_storeVar_74 (g off : Nat) (vs : Array Value) (w : World) : (Bf 74 4 ⟨g, off, none⟩ (.agg vs)).run Try.prog w = storedR Try.prog 74 4 g off vs w := run_storeVarR isRow_74 g off vs w

@[go_sem ↓] theorem loadVar_92 (a : Addr) : loadVar 92 a = Bj 92 2 a := by unfold Bj; rw [if_pos rfl]
@[go_sem ↓] theorem storeVar_92 (a : Addr) (v : Value) : storeVar 92 a v = Bf 92 2 a v := by unfold Bf; rw [if_pos rfl]
theorem isRow_92 : isRow Try.prog 92 2 = true := by kernel_rfl
@[go_sem] theorem run_loadVar_92 (g off : Nat) (w : World) : (Bj 92 2 ⟨g, off, none⟩).run Try.prog w = loadedR Try.prog 92 2 g off w := run_loadVarR isRow_92 g off w
@[go_sem] theorem run_storeVar_92 (g off : Nat) (vs : Array Value) (w : World) : (Bf 92 2 ⟨g, off, none⟩ (.agg vs)).run Try.prog w = storedR Try.prog 92 2 g off vs w := run_storeVarR isRow_92 g off vs w

@[go_sem ↓] theorem loadVar_93 (a : Addr) : loadVar 93 a = Bj 93 2 a := by unfold Bj; rw [if_pos rfl]
@[go_sem ↓] theorem storeVar_93 (a : Addr) (v : Value) : storeVar 93 a v = Bf 93 2 a v := by unfold Bf; rw [if_pos rfl]
theorem isRow_93 : isRow Try.prog 93 2 = true := by kernel_rfl
@[go_sem] theorem run_loadVar_93 (g off : Nat) (w : World) : (Bj 93 2 ⟨g, off, none⟩).run Try.prog w = loadedR Try.prog 93 2 g off w := run_loadVarR isRow_93 g off w
@[go_sem] theorem run_storeVar_93 (g off : Nat) (vs : Array Value) (w : World) : (Bf 93 2 ⟨g, off, none⟩ (.agg vs)).run Try.prog w = storedR Try.prog 93 2 g off vs w := run_storeVarR isRow_93 g off vs w

@[go_sem ↓] theorem loadVar_108 (a : Addr) : loadVar 108 a = Bj 108 64 a := by unfold Bj; rw [if_pos rfl]
@[go_sem ↓] theorem storeVar_108 (a : Addr) (v : Value) : storeVar 108 a v = Bf 108 64 a v := by unfold Bf; rw [if_pos rfl]
theorem isRow_108 : isRow Try.prog 108 64 = true := by kernel_rfl
@[go_sem] theorem run_loadVar_108 (g off : Nat) (w : World) : (Bj 108 64 ⟨g, off, none⟩).run Try.prog w = loadedR Try.prog 108 64 g off w := run_loadVarR isRow_108 g off w
@[go_sem] theorem run_storeVar_108 (g off : Nat) (vs : Array Value) (w : World) : (Bf 108 64 ⟨g, off, none⟩ (.agg vs)).run Try.prog w = storedR Try.prog 108 64 g off vs w := run_storeVarR isRow_108 g off vs w
theorem isBytes_108 : isBytes Try.prog 108 64 = true := by kernel_rfl
@[go_sem] theorem run_index_108 (cs : Array Value) (k : IntKind) (i : Int) (w : World) : (Instr.index 108 (.agg cs) (.int k i)).run Try.prog w = indexedB Try.prog 108 64 cs k i w := run_indexB isBytes_108 cs k i w
@[go_sem] theorem run_equalIn_108 (l m : List UInt8) (hl : csz (bvs l) = 64) (hm : csz (bvs m) = 64) (w : World) : (Op.equalIn 10000 108 (.agg (bvs l)) (.agg (bvs m))).run Try.prog w = .ok (l == m) w := run_equalIn_bytes isBytes_108 l m hl hm w

@[go_sem ↓] theorem loadVar_119 (a : Addr) : loadVar 119 a = Bj 119 64 a := by unfold Bj; rw [if_pos rfl]
@[go_sem ↓] theorem storeVar_119 (a : Addr) (v : Value) : storeVar 119 a v = Bf 119 64 a v := by unfold Bf; rw [if_pos rfl]
theorem isRow_119 : isRow Try.prog 119 64 = true := by kernel_rfl
@[go_sem] theorem run_loadVar_119 (g off : Nat) (w : World) : (Bj 119 64 ⟨g, off, none⟩).run Try.prog w = loadedR Try.prog 119 64 g off w := run_loadVarR isRow_119 g off w
@[go_sem] theorem run_storeVar_119 (g off : Nat) (vs : Array Value) (w : World) : (Bf 119 64 ⟨g, off, none⟩ (.agg vs)).run Try.prog w = storedR Try.prog 119 64 g off vs w := run_storeVarR isRow_119 g off vs w

@[go_sem ↓] theorem loadVar_120 (a : Addr) : loadVar 120 a = Bj 120 8 a := by unfold Bj; rw [if_pos rfl]
@[go_sem ↓] theorem storeVar_120 (a : Addr) (v : Value) : storeVar 120 a v = Bf 120 8 a v := by unfold Bf; rw [if_pos rfl]
theorem isRow_120 : isRow Try.prog 120 8 = true := by kernel_rfl
@[go_sem] theorem run_loadVar_120 (g off : Nat) (w : World) : (Bj 120 8 ⟨g, off, none⟩).run Try.prog w = loadedR Try.prog 120 8 g off w := run_loadVarR isRow_120 g off w
@[go_sem] theorem run_storeVar_120 (g off : Nat) (vs : Array Value) (w : World) : (Bf 120 8 ⟨g, off, none⟩ (.agg vs)).run Try.prog w = storedR Try.prog 120 8 g off vs w := run_storeVarR isRow_120 g off vs w

@[go_sem ↓] theorem loadVar_168 (a : Addr) : loadVar 168 a = Bj 168 4 a := by unfold Bj; rw [if_pos rfl]
@[go_sem ↓] theorem storeVar_168 (a : Addr) (v : Value) : storeVar 168 a v = Bf 168 4 a v := by unfold Bf; rw [if_pos rfl]
theorem isRow_168 : isRow Try.prog 168 4 = true := by kernel_rfl
@[go_sem] theorem run_loadVar_168 (g off : Nat) (w : World) : (Bj 168 4 ⟨g, off, none⟩).run Try.prog w = loadedR Try.prog 168 4 g off w := run_loadVarR isRow_168 g off w
@[go_sem] theorem run_storeVar_168 (g off : Nat) (vs : Array Value) (w : World) : (Bf 168 4 ⟨g, off, none⟩ (.agg vs)).run Try.prog w = storedR Try.prog 168 4 g off vs w := run_storeVarR isRow_168 g off vs w

@[go_sem ↓] theorem loadVar_169 (a : Addr) : loadVar 169 a = Bj 169 4 a := by unfold Bj; rw [if_pos rfl]
@[go_sem ↓] theorem storeVar_169 (a : Addr) (v : Value) : storeVar 169 a v = Bf 169 4 a v := by unfold Bf; rw [if_pos rfl]
theorem isRow_169 : isRow Try.prog 169 4 = true := by kernel_rfl
@[go_sem] theorem run_loadVar_169 (g off : Nat) (w : World) : (Bj 169 4 ⟨g, off, none⟩).run Try.prog w = loadedR Try.prog 169 4 g off w := run_loadVarR isRow_169 g off w
@[go_sem] theorem run_storeVar_169 (g off : Nat) (vs : Array Value) (w : World) : (Bf 169 4 ⟨g, off, none⟩ (.agg vs)).run Try.prog w = storedR Try.prog 169 4 g off vs w := run_storeVarR isRow_169 g off vs w

@[go_sem ↓] theorem loadVar_180 (a : Addr) : loadVar 180 a = Bj 180 11 a := by unfold Bj; rw [if_pos rfl]
@[go_sem ↓] theorem storeVar_180 (a : Addr) (v : Value) : storeVar 180 a v = Bf 180 11 a v := by unfold Bf; rw [if_pos rfl]
theorem isRow_180 : isRow Try.prog 180 11 = true := by kernel_rfl
@[go_sem] theorem run_loadVar_180 (g off : Nat) (w : World) : (Bj 180 11 ⟨g, off, none⟩).run Try.prog w = loadedR Try.prog 180 11 g off w := run_loadVarR isRow_180 g off w
@[go_sem] theorem run_storeVar_180 (g off : Nat) (vs : Array Value) (w : World) : (Bf 180 11 ⟨g, off, none⟩ (.agg vs)).run Try.prog w = storedR Try.prog 180 11 g off vs w := run_storeVarR isRow_180 g off vs w

@[go_sem ↓] theorem loadVar_181 (a : Addr) : loadVar 181 a = Bj 181 11 a := by unfold Bj; rw [if_pos rfl]
@[go_sem ↓] theorem storeVar_181 (a : Addr) (v : Value) : storeVar 181 a v = Bf 181 11 a v := by unfold Bf; rw [if_pos rfl]
theorem isRow_181 : isRow Try.prog 181 11 = true := by kernel_rfl
@[go_sem] theorem run_loadVar_181 (g off : Nat) (w : World) : (Bj 181 11 ⟨g, off, none⟩).run Try.prog w = loadedR Try.prog 181 11 g off w := run_loadVarR isRow_181 g off w
@[go_sem] theorem run_storeVar_181 (g off : Nat) (vs : Array Value) (w : World) : (Bf 181 11 ⟨g, off, none⟩ (.agg vs)).run Try.prog w = storedR Try.prog 181 11 g off vs w := run_storeVarR isRow_181 g off vs w

theorem elem_22 : elemB Try.prog 22 5 1 1 = true := by kernel_rfl
end Go.Proofs.Ytcjncidahjneaaa

namespace Go.Proofs.Ytcjncidahjneaaa
open Go.ChangeShapes Go.WideShapes Go.ChangeAt Go.RowKit

end Go.Proofs.Ytcjncidahjneaaa

namespace Go.Proofs.Ytcjncidahjneaaa
open Go.ChangeShapes Go.WideShapes Go.ChangeAt Go.RowKit

/-- The value is a slice of these rows of bytes, each of so many. -/
def RowsAt (w : World) (s : Nat) (v : Value) (ks : List (List UInt8)) : Prop :=
  (∀ k ∈ ks, k.length = s) ∧ ∃ p c, v = .slice p ks.length c ∧ (p = none → c = 0) ∧ ∀ i k, ks[i]? = some k → ∃ b o cs t e, p = some ⟨b, o, none⟩ ∧ blk w b = some (.cells cs t e) ∧ o + i * s + s ≤ csz cs ∧ cut cs (o + i * s) s = bvs k
/-- The value is a slice of these bytes. -/
def BytesAt (w : World) (v : Value) (l : List UInt8) : Prop :=
  ∃ p c, v = .slice p l.length c ∧ l.length ≤ c ∧ (p = none → c = 0) ∧ (l ≠ [] → ∃ b o cs t e, p = some ⟨b, o, none⟩ ∧ blk w b = some (.cells cs t e) ∧ ∀ i x, l[i]? = some x → cs[o + i]? = some (bv x))

theorem RowsAt.below {w w' : World} {s : Nat} {v : Value} {ks : List (List UInt8)} (h : RowsAt w s v ks) (hb : Below w.heap.size w w') : RowsAt w' s v ks := by
  obtain ⟨h1, p, c, h2, h0, h3⟩ := h
  refine ⟨h1, p, c, h2, h0, fun i k hi => ?_⟩
  obtain ⟨b, o, cs, t, e, h4, h5, h6⟩ := h3 i k hi
  exact ⟨b, o, cs, t, e, h4, (hb.block b (blk_lt h5)).trans h5, h6⟩
theorem BytesAt.below {w w' : World} {v : Value} {l : List UInt8} (h : BytesAt w v l) (hb : Below w.heap.size w w') : BytesAt w' v l := by
  obtain ⟨p, c, h2, h1, h0, h3⟩ := h
  refine ⟨p, c, h2, h1, h0, fun hne => ?_⟩
  obtain ⟨b, o, cs, t, e, h4, h5, h6⟩ := h3 hne
  exact ⟨b, o, cs, t, e, h4, (hb.block b (blk_lt h5)).trans h5, h6⟩
theorem RowsAt.row {w : World} {s n c : Nat} {p : Option Addr} {ks : List (List UInt8)} (h : RowsAt w s (.slice p n c) ks) {i : Nat} {k : List UInt8} (hi : ks[i]? = some k) :
    k.length = s ∧ ∃ b o cs t e, p = some ⟨b, o, none⟩ ∧ blk w b = some (.cells cs t e) ∧ o + i * s + s ≤ csz cs ∧ cut cs (o + i * s) s = bvs k := by
  obtain ⟨h1, p', c', h2, _, h3⟩ := h
  simp only [Value.slice.injEq] at h2
  obtain ⟨rfl, _, _⟩ := h2
  exact ⟨h1 k (List.mem_of_getElem? hi), h3 i k hi⟩
theorem blk_of_cell {w : World} {a : Addr} {v : Value} (h : w.cell? a = some v) : ∃ b o cs t e, a = ⟨b, o, none⟩ ∧ blk w b = some (.cells cs t e) ∧ cs[o]? = some v := by
  unfold World.cell? at h
  cases ho : w.heap[a.block]? with
  | none => simp [ho] at h
  | some o =>
    cases o with
    | cells c t fr =>
      simp only [ho] at h
      obtain ⟨b, o, sp⟩ := a
      cases sp with
      | some s => simp at h
      | none => exact ⟨b, o, c, t, fr, rfl, ho, by simpa using h⟩
    | _ => simp [ho] at h

theorem add_addr (b o j : Nat) : (⟨b, o, none⟩ : Addr).add j = ⟨b, o + j, none⟩ := by
  unfold Addr.add
  split <;> simp_all

theorem csz_is (cs : Array Value) : csz cs = cs.size := by unfold csz; rfl
theorem cut_of_cells {cs : Array Value} {o n : Nat} {l : List UInt8} (hl : l.length = n) (hn : 0 < n) (h : ∀ i x, l[i]? = some x → cs[o + i]? = some (bv x)) : o + n ≤ csz cs ∧ cut cs o n = bvs l := by
  have hs : o + n ≤ cs.size := by
    have h1 := h (n - 1) (l.getD (n - 1) 0) (by simp [show n - 1 < l.length by omega])
    have := (Array.getElem?_eq_some_iff.1 h1).1
    omega
  refine ⟨by rw [csz_is]; exact hs, ?_⟩
  have key : cs.extract o (o + n) = bvs l := by
    apply Array.ext_getElem?
    intro i
    rw [bvs_getElem?]
    by_cases hi : i < n
    · have hx : l[i]? = some l[i] := List.getElem?_eq_getElem (by omega)
      rw [Array.getElem?_extract, hx]
      simp only [Option.map_some]
      rw [if_pos (by omega)]
      exact h i _ hx
    · rw [Array.getElem?_eq_none (by simp; omega), List.getElem?_eq_none (by omega)]; rfl
  unfold cut
  split
  · rename_i hc
    obtain ⟨rfl, hc⟩ := hc
    rw [csz_is] at hc
    rw [← key]
    simp [← hc]
  · exact key

/-- A slice of bytes that came in. -/
theorem open_bytes {P : Program} {H : Type} {enc : TypeId × Value → H} {w : World} {base : Nat} {sp : Nat → Bool} {held : Bool} {t e : Nat} {v : Value} {d : DataW H} {p : List MemPlace}
    (ht : P.underlying t = some (.slice e)) (he : P.underlying e = some (.int .u8)) (hc : P.cellsOf e = 1) (hv : ∃ a len cap, v = .slice a len cap) (hr : DataW.Trod enc P w base sp held t v d p) :
    ∃ l, BytesAt w v l ∧ l.length ≤ maxLen := by
  obtain ⟨a0, len0, cap0, rfl⟩ := hv
  obtain ⟨fuel, hf⟩ := hr
  rcases Go.Deep.open_slice1 ht hc hf with ⟨hcs, _⟩ | ⟨a, len, cap, m, n2, V, D, Pl, hcs, _, hlc, hcm, hm, _, hx⟩
  · simp only [Value.cells, List.cons.injEq, Value.slice.injEq, and_true] at hcs
    obtain ⟨rfl, rfl, rfl⟩ := hcs
    exact ⟨[], ⟨none, 0, rfl, Nat.le_refl _, fun _ => rfl, fun h => absurd rfl h⟩, by simp⟩
  · simp only [Value.cells, List.cons.injEq, Value.slice.injEq, and_true] at hcs
    obtain ⟨rfl, rfl, rfl⟩ := hcs
    have hlm : len0 ≤ m := by rw [hm]; split <;> omega
    have key : ∀ i, i < len0 → ∃ x : UInt8, w.cell? (a.add i) = some (bv x) := by
      intro i hi
      obtain ⟨h1, h2⟩ := hx i (by omega)
      obtain ⟨x, e4, _, wf⟩ := DataW.trod_int he h2
      simp at e4
      have q1 : IntKind.u8.min = 0 := rfl
      have q2 : IntKind.u8.max = 255 := rfl
      simp only [Lit.wf, Bool.and_eq_true, decide_eq_true_eq] at wf
      refine ⟨UInt8.ofNat x.toNat, ?_⟩
      rw [h1, e4]
      simp only [bv]
      have : ((UInt8.ofNat x.toNat).toNat : Int) = x := by simp; omega
      rw [this]
    refine ⟨(List.range len0).map fun i => if hi : i < len0 then (key i hi).choose else 0, ⟨some a, cap0, by simp, by simp; omega, (fun h => by cases h), fun hne => ?_⟩, by simp; omega⟩
    have h0 : 0 < len0 := by
      rcases Nat.eq_zero_or_pos len0 with rfl | h
      · exact absurd rfl hne
      · exact h
    obtain ⟨x0, hk0⟩ := key 0 h0
    rw [show a.add 0 = a by simp [Addr.add]] at hk0
    obtain ⟨b, o, cs, t2, e2, rfl, hb, _⟩ := blk_of_cell hk0
    refine ⟨b, o, cs, t2, e2, rfl, hb, fun i x hi => ?_⟩
    have hil : i < len0 := by have := (List.getElem?_eq_some_iff.1 hi).1; simpa using this
    have hk : x = (key i hil).choose := by
      simp [hil] at hi
      exact hi.symm
    have h2 := (key i hil).choose_spec
    rw [← hk, add_addr, cell_of_row w b (o + i) cs t2 e2 hb] at h2
    exact h2
end Go.Proofs.Ytcjncidahjneaaa
