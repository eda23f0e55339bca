/-
  Laws that the claims of this seat use, of several texts in one: Eng, EngA, TyI. No condition of their own.
-/
import Derived.Test.YtcjncidahjneaaaRows
import Derived.Great.BuildSlice
import Derived.WalkSpells
import Derived.Lib.AppendZeros
import Derived.Test.YtcjncidahjneaaaJB1

namespace Go.Proofs.Ytcjncidahjneaaa
open Go.RowKit
abbrev Blk := Nat × Array Value × TypeId
theorem Bn (cs : Array Value) (i : Nat) (v : Value) : csz (cs.setIfInBounds i v) = csz cs := by unfold csz; simp
/-- A word on a world that names the cells of one's own blocks, which lie from B on. -/
structure Own (B : Nat) (H : World → List Blk → Prop) : Prop where
  blk : ∀ {w : World} {L : List Blk} (i : Nat) {b : Nat} {cs : Array Value} {t : TypeId}, H w L → L[i]? = some (b, cs, t) → Go.Proofs.Ytcjncidahjneaaa.blk w b = some (.cells cs t (0, 0))
  call : ∀ {w w' : World} {L : List Blk}, H w L → Below w.heap.size w w' → H w' L
  alloc : ∀ {w : World} {L : List Blk} (cs : Array Value) (t : TypeId), H w L → H (w.alloc (.cells cs t)) ((w.heap.size, cs, t) :: L)
  setRow : ∀ {w : World} {L : List Blk} (i : Nat) {b : Nat} {cs : Array Value} {t : TypeId} (cs' : Array Value), H w L → L[i]? = some (b, cs, t) → H (w.setRow b cs') (L.set i (b, cs', t))
  size : ∀ {w : World} {L : List Blk}, H w L → B ≤ w.heap.size
  add : ∀ {w : World} {L : List Blk} {g : Nat} {cs : Array Value} {t : TypeId}, H w L → B ≤ g → g ∉ L.map (·.1) → Go.Proofs.Ytcjncidahjneaaa.blk w g = some (.cells cs t (0, 0)) → H w ((g, cs, t) :: L)
  nodup : ∀ {w : World} {L : List Blk}, H w L → (L.map (·.1)).Nodup
  sub : ∀ {w : World} {L L' : List Blk}, H w L → (∀ x ∈ L', x ∈ L) → (L'.map (·.1)).Nodup → H w L'
theorem In.sub {L0 : List Blk} {w0 w : World} {L L' : List Blk} (h : In L0 w0 L w) (hx : ∀ x ∈ L', x ∈ L) (hn : (L'.map (·.1)).Nodup) : In L0 w0 L' w :=
  ⟨⟨⟨fun x hm => by
    obtain ⟨y, hy, rfl⟩ := List.mem_map.1 hm
    exact h.rd.holds.1 _ (List.mem_map.2 ⟨y, hx y hy, rfl⟩), by rw [objs_keys]; exact hn⟩, h.rd.kept, fun x hm => by
    obtain ⟨y, hy, rfl⟩ := List.mem_map.1 hm
    exact h.rd.fresh _ (List.mem_map.2 ⟨y, hx y hy, rfl⟩)⟩⟩
theorem St.add {w0 w : World} {L : List Blk} {g : Nat} {cs : Array Value} {t : TypeId} (h : St w0 w L) (hB : w0.heap.size ≤ g) (hn : g ∉ L.map (·.1)) (hb : Go.Proofs.Ytcjncidahjneaaa.blk w g = some (.cells cs t (0, 0))) : St w0 w ((g, cs, t) :: L) :=
  ⟨h.1, fun x hx => by
    rcases List.mem_cons.1 hx with rfl | hx
    · exact ⟨hB, hb⟩
    · exact h.2.1 x hx, by simp only [List.map_cons, List.nodup_cons]; exact ⟨hn, h.2.2⟩⟩
theorem In.add {L0 : List Blk} {w0 w : World} {L : List Blk} {g : Nat} {cs : Array Value} {t : TypeId} (h : In L0 w0 L w) (hB : w0.heap.size ≤ g) (hn : g ∉ L.map (·.1)) (hb : Go.Proofs.Ytcjncidahjneaaa.blk w g = some (.cells cs t (0, 0))) : In L0 w0 ((g, cs, t) :: L) w := by
  refine ⟨⟨⟨fun x hx => ?_, ?_⟩, h.rd.kept, fun x hx => ?_⟩⟩
  · rcases List.mem_cons.1 hx with rfl | hx
    · exact hb
    · exact h.rd.holds.1 x hx
  · have := h.rd.holds.2
    rw [objs_keys] at this ⊢
    simp only [List.map_cons, List.nodup_cons]
    exact ⟨hn, this⟩
  · rcases List.mem_cons.1 hx with rfl | hx
    · exact .inr hB
    · exact h.rd.fresh x hx
theorem Ab {w0 : World} : Own w0.heap.size (St w0) := ⟨fun i _ _ _ h hi => h.blk i hi, fun h hb => h.call hb, fun cs t h => h.alloc cs t, fun i _ _ _ cs' h hi => h.setRow i hi cs', fun h => h.1.size, fun h hB hn hb => h.add hB hn hb, fun h => h.2.2, fun h hx hn => ⟨h.1, fun x hm => h.2.1 x (hx x hm), hn⟩⟩
theorem own_in {L0 : List Blk} {w0 : World} : Own w0.heap.size (fun w L => In L0 w0 L w) := ⟨fun i _ _ _ h hi => (h.at i hi).1, fun h hb => h.call hb, fun cs t h => h.alloc cs t, fun i _ _ _ cs' h hi => h.setRow i hi cs', fun h => h.rd.kept.size, fun h hB hn hb => h.add hB hn hb, fun h => by have := h.rd.holds.2; rwa [objs_keys] at this, fun h hx hn => h.sub hx hn⟩
theorem Own.setCell {B : Nat} {H : World → List Blk → Prop} (hH : Own B H) {w : World} {L : List Blk} (i : Nat) {b : Nat} {cs : Array Value} {t : TypeId} (o : Nat) (v : Value) (h : H w L) (hi : L[i]? = some (b, cs, t)) : H (w.setCell ⟨b, o, none⟩ v) (L.set i (b, cs.setIfInBounds o v, t)) := by
  rw [setCell_eq_setRow w b o cs t (0, 0) v (hH.blk i h hi)]
  exact hH.setRow i _ h hi
theorem Own.lt {B : Nat} {H : World → List Blk → Prop} (hH : Own B H) {w : World} {L : List Blk} (h : H w L) {b : Nat} (hb : b ∈ L.map (·.1)) : b < w.heap.size := by
  obtain ⟨x, hx, rfl⟩ := List.mem_map.1 hb
  obtain ⟨i, hi, rfl⟩ := List.getElem_of_mem hx
  exact blk_lt (hH.blk i h (b := L[i].1) (cs := L[i].2.1) (t := L[i].2.2) (List.getElem?_eq_getElem hi))
theorem Own.new {B : Nat} {H : World → List Blk → Prop} (hH : Own B H) {w w' : World} {L : List Blk} (h : H w L) (hb : Below w.heap.size w w') {g : Nat} {cs : Array Value} {t : TypeId} (hg : w.heap.size ≤ g) (hc : Go.Proofs.Ytcjncidahjneaaa.blk w' g = some (.cells cs t (0, 0))) : H w' ((g, cs, t) :: L) :=
  hH.add (hH.call h hb) (Nat.le_trans (hH.size h) hg) (fun hm => by have := hH.lt h hm; omega) hc
theorem Own.news {B : Nat} {H : World → List Blk → Prop} (hH : Own B H) {W w' : World} {L : List Blk} {b : Nat → Nat} (h : H W L) (hc : Cls W w') : ∀ (F : List Fact), (F.map (·.1)).Nodup → (∀ x ∈ F, W.heap.size ≤ b x.1 ∧ Go.Proofs.Ytcjncidahjneaaa.blk w' (b x.1) = some (.cells x.2.1 x.2.2 (0, 0))) →
    (∀ x ∈ F, ∀ y ∈ F, x.1 ≠ y.1 → b x.1 ≠ b y.1) → H w' (F.map (fun x => (b x.1, x.2.1, x.2.2)) ++ L)
  | [], _, _, _ => hH.call h hc
  | f :: F, hd, hF, hN => by
    simp only [List.map_cons, List.nodup_cons] at hd
    have h1 := Own.news hH h hc F hd.2 (fun x hx => hF x (List.mem_cons_of_mem _ hx)) (fun x hx y hy => hN x (List.mem_cons_of_mem _ hx) y (List.mem_cons_of_mem _ hy))
    have hf := hF f (List.mem_cons_self ..)
    refine hH.add h1 (Nat.le_trans (hH.size h) hf.1) (fun hm => ?_) hf.2
    replace hm : b f.1 ∈ (F.map (fun x => (b x.1, x.2.1, x.2.2)) ++ L).map (·.1) := hm
    rw [List.map_append, List.mem_append] at hm
    rcases hm with hm | hm
    · simp only [List.map_map, List.mem_map, Function.comp] at hm
      obtain ⟨y, hy, he⟩ := hm
      by_cases h2 : y.1 = f.1
      · exact hd.1 (List.mem_map.2 ⟨y, hy, h2⟩)
      · exact hN y (List.mem_cons_of_mem _ hy) f (List.mem_cons_self ..) h2 he
    · have := hH.lt h hm
      omega
theorem front_perm {α : Type} : ∀ (L : List α) (i : Nat) (h : i < L.length), (L[i] :: L.eraseIdx i).Perm L
  | x :: L, 0, _ => .refl _
  | x :: L, i + 1, h => (List.Perm.swap x _ _).trans (.cons x (front_perm L i (by simpa using h)))
theorem Own.front {B : Nat} {H : World → List Blk → Prop} (hH : Own B H) {w : World} {L : List Blk} (h : H w L) {i : Nat} {x : Blk} (hi : L[i]? = some x) : H w (x :: L.eraseIdx i) := by
  obtain ⟨hl, rfl⟩ := List.getElem?_eq_some_iff.1 hi
  have hp := front_perm L i hl
  exact hH.sub h (fun y hy => hp.mem_iff.1 hy) ((hp.map (·.1)).nodup_iff.2 (hH.nodup h))
theorem Own.drop {B : Nat} {H : World → List Blk → Prop} (hH : Own B H) {w : World} {x : Blk} {L : List Blk} (h : H w (x :: L)) : H w L :=
  hH.sub h (fun y hy => List.mem_cons_of_mem _ hy) (List.nodup_cons.1 (by simpa using hH.nodup h)).2
theorem at_ {L : List Blk} (i : Nat) {x : Blk} (h : L[i]? = some x) : L[i]? = some x := h
def oneT (P : Program) (t : TypeId) : Bool := match P.underlying t with | none => false | some (.struct _) => false | some (.array _ _) => false | some _ => true
def elT (P : Program) (t : TypeId) : Option Nat := match P.underlying t with | some (.slice e) => (P.info? e).map (·.size) | _ => none
def arT (P : Program) (t : TypeId) : Option (Nat × Nat) := match P.underlying t with | some (.array n e) => ((P.info? e).map (·.size)).map fun m => (n, m) | _ => none
def zeroT (P : Program) (t : TypeId) : Option (Array Value) := ((P.info? t).bind (·.zero)).map (·.cells)
def isGo (P : Program) (f : FuncId) : Bool := match P.funcs[f]? with | some fn => fn.name != "runtime.NumGoroutine" && fn.body.isSome | none => false
/-! ### What is known of types: found by their numbers -/
class ElT (P : Program) (t : TypeId) (m : outParam Nat) : Prop where
  is : elT P t = some m
class ArT (P : Program) (t : TypeId) (n m : outParam Nat) : Prop where
  is : arT P t = some (n, m)
class OneT (P : Program) (t : TypeId) : Prop where
  is : oneT P t = true
  sz : (P.info? t).map (·.size) = some 1
class RowT (P : Program) (t : TypeId) (n : outParam Nat) : Prop where
  is : isRow P t n = true
  sz : (P.info? t).map (·.size) = some n
class ZeroT (P : Program) (t : TypeId) (cs : outParam (Array Value)) : Prop where
  is : zeroT P t = some cs
/-- A field of a struct type: where it lies, how many cells it has (if any), and whether it is one cell. -/
def fldT (P : Program) (s k : Nat) : Option (Nat × Nat × Nat) := match P.underlying s with
  | some (.struct fs) => (match fs[k]? with | some f => (match P.info? f.type with | some i => (if i.size = 0 then none else some (f.offset, i.size, f.type)) | none => none) | none => none)
  | _ => none
class FldT (P : Program) (s k : Nat) (off n : outParam Nat) : Prop where
  is : ∃ t, fldT P s k = some (off, n, t)
class FldV (P : Program) (s k : Nat) (off n : outParam Nat) (one : outParam Bool) : Prop where
  is : ∃ t, fldT P s k = some (off, n, t) ∧ (if one then oneT P t = true ∧ n = 1 else isRow P t n = true)
class IfaceT (P : Program) (t : TypeId) : Prop where
  is : (match P.underlying t with | some (.interface _) => false | none => false | some _ => true) = true
class IfT (P : Program) (t : TypeId) : Prop where
  is : P.underlying t = some (.interface (P.methodsAt t))
/-- A slice type, its elements: their type, how many cells and bytes. -/
class SlT (P : Program) (t : TypeId) (e size bytes : outParam Nat) : Prop where
  is : elemB P t e size bytes = true
class IntT (P : Program) (t : TypeId) (k : outParam IntKind) : Prop where
  is : P.underlying t = some (.int k)
class GoF (P : Program) (f : FuncId) : Prop where
  is : isGo P f = true
/-! ### Operands -/
def evO (a : Act) : Operand → Option Value
  | .tmp t => a.tmps.toList[t]?
  | .const v => some v
  | .global g => some (.pointer (some ⟨g, 0, none⟩))
  | .func f => some (.func (.func f) #[] #[])
theorem Bb {a : Act} {x : Operand} {v : Value} (h : evO a x = some v) : a.eval x = v := by
  cases x with
  | tmp t =>
    simp only [evO, Array.getElem?_toList] at h
    simp only [Act.eval, Array.getD_eq_getD_getElem?, h, Option.getD_some]
  | const v' => simp only [evO, Option.some.injEq] at h; exact h
  | global g => simp only [evO, Option.some.injEq] at h; exact h
  | func f => simp only [evO, Option.some.injEq] at h; exact h
def evs (a : Act) : List Operand → Option (List Value)
  | [] => some []
  | x :: l => match evO a x, evs a l with
    | some v, some vs => some (v :: vs)
    | _, _ => none
theorem evs_eval {a : Act} : ∀ {l : List Operand} {vs : List Value}, evs a l = some vs → l.map a.eval = vs
  | [], vs, h => by simp only [evs, Option.some.injEq] at h; exact h
  | x :: l, vs, h => by
    simp only [evs] at h
    split at h
    · rename_i v vs' h1 h2
      simp only [Option.some.injEq] at h
      subst h
      simp only [List.map_cons, Bb h1, evs_eval h2]
    · cases h

/-! ### Steps -/
def Bp (o : Oper) : Bool := match o.op with | .defer _ => true | _ => false
theorem noDefer_of {o : Oper} (h : Bp o = false) : ∀ c, o.op ≠ .defer c := fun c e => by simp [Bp, e] at h
structure Stp (P : Program) (ops : Array Oper) (W : List Oper → Act → World → Prop) : Prop where
  go : ∀ {o : Oper} {rest : List Oper} {a : Act} {w w' : World} {v : Value}, Region.wanted o (yielded ops a.tmps) = true → Bp o = false → (execOp a.eval o).run P w = .ok (.value v) w' → W rest (a.put o.dst v) w' → W (o :: rest) a w
  mute : ∀ {o : Oper} {rest : List Oper} {a : Act} {w w' : World}, Region.wanted o (yielded ops a.tmps) = true → Bp o = false → (execOp a.eval o).run P w = .ok .skip w' → W rest (a.put o.dst undef) w' → W (o :: rest) a w
  enter : ∀ {o : Oper} {rest : List Oper} {a : Act} {w w' : World} {f : FuncId} {args : Array Value} {R : Value → World → Prop}, Region.wanted o (yielded ops a.tmps) = true → Bp o = false → (execOp a.eval o).run P w = .ok (.enter f args) w' →
    Calls P f args w' (fun e w'' => ∃ v, e = .returned v ∧ R v w'') → (∀ v w'', R v w'' → W rest (a.put o.dst v) w'') → W (o :: rest) a w
  skip : ∀ {o : Oper} {rest : List Oper} {a : Act} {w : World}, Region.wanted o (yielded ops a.tmps) = false → W rest (a.put o.dst undef) w → W (o :: rest) a w
theorem Aa {P : Program} {ops : Array Oper} {Q : Exit → Act → World → Prop} : Stp P ops (wpList P ops Q) where
  go := fun hw _ hr hk => by
    unfold wpList
    rw [if_pos hw]
    refine .inl ?_
    unfold Oper.wp
    rw [hr]
    exact hk
  mute := fun hw _ hr hk => by
    unfold wpList
    rw [if_pos hw]
    refine .inl ?_
    unfold Oper.wp
    rw [hr]
    exact hk
  enter := fun hw _ hr hc hk => by
    unfold wpList
    rw [if_pos hw]
    refine .inl ?_
    unfold Oper.wp
    rw [hr, Oper.upon_enter]
    refine hc.mono ?_
    rintro e w'' ⟨v, rfl, hR⟩
    exact hk v w'' hR
  skip := fun hw hk => wpList_skip hw hk
theorem Am {P : Program} {ops : Array Oper} {Q : Exit → Act → World → Prop} {lp : Nat} : Stp P ops (wpListIn (Fence.wide.inRound lp) 0 P ops Q) where
  go := fun hw hd hr hk => by
    unfold wpListIn
    rw [if_pos hw]
    unfold Oper.wpIn
    refine ⟨fun _ _ => trivial, ?_⟩
    rw [Oper.semAt_plain _ _ _ (noDefer_of hd), hr, Oper.uponIn_value]
    exact hk
  mute := fun hw hd hr hk => by
    unfold wpListIn
    rw [if_pos hw]
    unfold Oper.wpIn
    refine ⟨fun _ _ => trivial, ?_⟩
    rw [Oper.semAt_plain _ _ _ (noDefer_of hd), hr, Oper.uponIn_skip]
    exact hk
  enter := fun hw hd hr hc hk => by
    unfold wpListIn
    rw [if_pos hw]
    unfold Oper.wpIn
    refine ⟨fun _ _ => trivial, ?_⟩
    rw [Oper.semAt_plain _ _ _ (noDefer_of hd), hr, Oper.uponIn_enter]
    refine ⟨fun h => (by cases h), ?_⟩
    refine (CallsIn.inRound lp (callsIn_wide.2 hc)).mono ?_
    rintro e w'' ⟨v, rfl, hR⟩
    exact hk v w'' hR
  skip := fun hw hk => by
    unfold wpListIn
    rw [if_neg (by rw [hw]; decide)]
    exact ⟨fun _ _ => trivial, hk⟩

theorem wpIn_scope_wide {P : Program} {n : Nat} {Q : Exit → Act → World → Prop} {a : Act} {w : World} {c : Code} (h : c.wpIn Fence.wide n P (Exit.noGoto Q) a w) : (Code.scope c).wpIn Fence.wide n P Q a w := wpIn_wide.2 (wp_scope_straight (wpIn_wide.1 h))
theorem Ah {P : Program} {ops : Array Oper} {Q : Exit → Act → World → Prop} {n : Nat} : Stp P ops (wpListIn Fence.wide n P ops Q) where
  go := fun hw hd hr hk => by
    unfold wpListIn
    rw [if_pos hw]
    unfold Oper.wpIn
    refine ⟨fun _ _ => trivial, ?_⟩
    rw [Oper.semAt_plain _ _ _ (noDefer_of hd), hr, Oper.uponIn_value]
    exact hk
  mute := fun hw hd hr hk => by
    unfold wpListIn
    rw [if_pos hw]
    unfold Oper.wpIn
    refine ⟨fun _ _ => trivial, ?_⟩
    rw [Oper.semAt_plain _ _ _ (noDefer_of hd), hr, Oper.uponIn_skip]
    exact hk
  enter := fun hw hd hr hc hk => by
    unfold wpListIn
    rw [if_pos hw]
    unfold Oper.wpIn
    refine ⟨fun _ _ => trivial, ?_⟩
    rw [Oper.semAt_plain _ _ _ (noDefer_of hd), hr, Oper.uponIn_enter]
    refine ⟨fun h => (by cases h), ?_⟩
    refine (callsIn_wide.2 hc).mono ?_
    rintro e w'' ⟨v, rfl, hR⟩
    exact hk v w'' hR
  skip := fun hw hk => by
    unfold wpListIn
    rw [if_neg (by rw [hw]; decide)]
    exact ⟨fun _ _ => trivial, hk⟩

section
variable {P : Program} {ops : Array Oper} {W : List Oper → Act → World → Prop} {o : Oper} {rest : List Oper} {a : Act} {w w' : World} {v : Value} {B : Nat} {H : World → List Blk → Prop} {L : List Blk}
/-! ### What an operation yields -/
theorem r_move {x : Operand} (hop : o.op = .move x) (hx : evO a x = some v) : (execOp a.eval o).run P w = .ok (.value v) w := by
  unfold execOp; rw [hop]; simp only [Bb hx]; rfl
theorem r_assign {x : Operand} (hop : o.op = .assign x) (hx : evO a x = some v) : (execOp a.eval o).run P w = .ok (.value v) w := by
  unfold execOp; rw [hop]; simp only [Bb hx]; rfl
theorem r_pick {c x y : Operand} {b : Bool} (hop : o.op = .pick c x y) (hc : evO a c = some (.bool b)) (hv : (if b then evO a x else evO a y) = some v) : (execOp a.eval o).run P w = .ok (.value v) w := by
  unfold execOp; rw [hop]
  cases b
  · simp only [Bool.false_eq_true, if_false] at hv
    simp [Bb hc, Bb hv, asBool]
  · simp only [if_true] at hv
    simp [Bb hc, Bb hv, asBool]
theorem r_not {t : TypeId} {x : Operand} {b c : Bool} (hop : o.op = .unOp .not t x) (hx : evO a x = some (.bool b)) (hc : (!b) = c) : (execOp a.eval o).run P w = .ok (.value (.bool c)) w := by
  unfold execOp; rw [hop]; simp only [Bb hx, ← hc]; rfl
theorem r_extract {x : Operand} {k : Nat} {vs : Array Value} (hop : o.op = .extract x k) (hx : evO a x = some (.tuple vs)) (hv : vs.toList[k]? = some v) : (execOp a.eval o).run P w = .ok (.value v) w := by
  unfold execOp; rw [hop]
  rw [Array.getElem?_toList] at hv
  simp [Bb hx, Instr.extract, hv]
theorem run_isAgg {t : TypeId} (h : oneT P t = true) : (isAgg t).run P w = .ok false w := by
  unfold oneT at h
  cases hu : P.underlying t with
  | none => simp [hu] at h
  | some d =>
    unfold isAgg
    rw [Sem.run_bind, run_underlying hu]
    cases d <;> simp_all
theorem run_load1 {t : TypeId} {b off : Nat} {cs : Array Value} {ty : TypeId} {fr : Nat × Nat} (h1 : oneT P t = true) (hb : blk w b = some (.cells cs ty fr)) (hv : cs[off]? = some v) : (Instr.loadAt t (.pointer (some ⟨b, off, none⟩))).run P w = .ok v w := by
  have hc : w.cell? ⟨b, off, none⟩ = some v := (cell_of_row w b off cs ty fr hb).trans hv
  unfold Instr.loadAt Instr.sureAddr loadVar
  simp [Sem.run_bind, run_isAgg h1, hc]
theorem r_load1 {t : TypeId} {x : Operand} {b off : Nat} {cs : Array Value} {ty : TypeId} {fr : Nat × Nat} (hop : o.op = .load t x) (hx : evO a x = some (.pointer (some ⟨b, off, none⟩))) (h1 : OneT P t) (hb : blk w b = some (.cells cs ty fr)) (hv : cs.toList[off]? = some v) : (execOp a.eval o).run P w = .ok (.value v) w := by
  unfold execOp; rw [hop]
  simp only [Bb hx, Sem.run_bind, run_load1 h1.is hb (by rw [← Array.getElem?_toList]; exact hv)]
  rfl
theorem r_loadR {t : TypeId} {x : Operand} {n b off : Nat} {cs vs : Array Value} {ty : TypeId} {fr : Nat × Nat} (hop : o.op = .load t x) (hx : evO a x = some (.pointer (some ⟨b, off, none⟩))) (h1 : RowT P t n) (hb : blk w b = some (.cells cs ty fr)) (hn : off + n ≤ csz cs) (hv : cut cs off n = vs) : (execOp a.eval o).run P w = .ok (.value (.agg vs)) w := by
  unfold execOp; rw [hop]
  have hl : (loadVar t ⟨b, off, none⟩).run P w = .ok (.agg vs) w := by
    have := run_loadVarR h1.is b off w
    unfold Bj at this
    rw [if_pos rfl] at this
    rw [this]
    unfold loadedR
    rw [hb]
    simp only
    rw [if_pos hn, hv]
  simp only [Bb hx, Sem.run_bind, Instr.loadAt, Instr.sureAddr, Sem.run_pure, Result.andThen_ok, hl]
theorem elT_iff {t : TypeId} {m : Nat} (h : elT P t = some m) : ∃ e, P.underlying t = some (.slice e) ∧ (P.info? e).map (·.size) = some m := by
  unfold elT at h
  cases hu : P.underlying t with
  | none => simp [hu] at h
  | some d =>
    cases d <;> simp [hu] at h
    exact ⟨_, rfl, by simpa using h⟩
theorem addr_add (b off k : Nat) : (⟨b, off, none⟩ : Addr).add k = ⟨b, off + k, none⟩ := by unfold Addr.add; split <;> simp_all
theorem r_indexAddr {t : TypeId} {x y : Operand} {m b off n c q : Nat} {k : IntKind} {i : Int} (hop : o.op = .indexAddr t x y) (hx : evO a x = some (.slice (some ⟨b, off, none⟩) n c)) (hy : evO a y = some (.int k i)) (hm : ElT P t m) (h0 : 0 ≤ i ∧ i < (n : Int)) (hq : off + i.toNat * m = q) :
    (execOp a.eval o).run P w = .ok (.value (.pointer (some ⟨b, q, none⟩))) w := by
  obtain ⟨e, hu, hs⟩ := elT_iff hm.is
  unfold execOp; rw [hop]
  simp [Bb hx, Bb hy, Instr.indexAt, asIntOf, Sem.run_bind, run_underlying hu, h0.1, h0.2, run_sizeOf hs, addr_add, hq]
theorem arT_iff {t : TypeId} {n m : Nat} (h : arT P t = some (n, m)) : ∃ e, P.underlying t = some (.array n e) ∧ (P.info? e).map (·.size) = some m := by
  unfold arT at h
  cases hu : P.underlying t with
  | none => simp [hu] at h
  | some d =>
    cases d <;> simp [hu] at h
    obtain ⟨i, h1, h2, h3⟩ := h
    subst h2
    exact ⟨_, rfl, by rw [h1]; simp [h3]⟩
theorem r_indexAddrA {t : TypeId} {x y : Operand} {m b off n q : Nat} {k : IntKind} {i : Int} (hop : o.op = .indexAddr t x y) (hx : evO a x = some (.pointer (some ⟨b, off, none⟩))) (hy : evO a y = some (.int k i)) (hm : ArT P t n m) (h0 : 0 ≤ i ∧ i < (n : Int)) (hq : off + i.toNat * m = q) :
    (execOp a.eval o).run P w = .ok (.value (.pointer (some ⟨b, q, none⟩))) w := by
  obtain ⟨e, hu, hs⟩ := arT_iff hm.is
  unfold execOp; rw [hop]
  simp [Bb hx, Bb hy, Instr.indexAt, Instr.sureAddr, asIntOf, Sem.run_bind, run_underlying hu, h0.1, h0.2, run_sizeOf hs, addr_add, hq]

/-! ### Numbers -/
/-- A number within its kind's bounds is as it is. -/
def fits (k : IntKind) (n : Int) : Prop := k.wrap n = n
theorem fits_i64 {n : Int} (h : -9223372036854775808 ≤ n ∧ n ≤ 9223372036854775807) : fits .i64 n := IntWalk.i64_in n h
theorem r_add {t t' : TypeId} {x y : Operand} {k : IntKind} {m n q : Int} (hop : o.op = .binOp .add t x y t') (hx : evO a x = some (.int k m)) (hy : evO a y = some (.int k n)) (hf : fits k (m + n)) (hq : m + n = q) : (execOp a.eval o).run P w = .ok (.value (.int k q)) w := by
  unfold execOp; rw [hop]; subst hq
  simp [Bb hx, Bb hy, eqGuard, binOp, Op.intArith, show k.wrap (m + n) = m + n from hf]
theorem r_sub {t t' : TypeId} {x y : Operand} {k : IntKind} {m n q : Int} (hop : o.op = .binOp .sub t x y t') (hx : evO a x = some (.int k m)) (hy : evO a y = some (.int k n)) (hf : fits k (m - n)) (hq : m - n = q) : (execOp a.eval o).run P w = .ok (.value (.int k q)) w := by
  unfold execOp; rw [hop]; subst hq
  simp [Bb hx, Bb hy, eqGuard, binOp, Op.intArith, show k.wrap (m - n) = m - n from hf]
theorem r_mul {t t' : TypeId} {x y : Operand} {k : IntKind} {m n q : Int} (hop : o.op = .binOp .mul t x y t') (hx : evO a x = some (.int k m)) (hy : evO a y = some (.int k n)) (hf : fits k (m * n)) (hq : m * n = q) : (execOp a.eval o).run P w = .ok (.value (.int k q)) w := by
  unfold execOp; rw [hop]; subst hq
  simp [Bb hx, Bb hy, eqGuard, binOp, Op.intArith, show k.wrap (m * n) = m * n from hf]
theorem r_quo {t t' : TypeId} {x y : Operand} {k : IntKind} {m n q : Int} (hop : o.op = .binOp .quo t x y t') (hx : evO a x = some (.int k m)) (hy : evO a y = some (.int k n)) (h0 : 0 ≤ m ∧ 0 < n) (hf : fits k (m / n)) (hq : m / n = q) : (execOp a.eval o).run P w = .ok (.value (.int k q)) w := by
  unfold execOp; rw [hop]; subst hq
  have h1 : ¬ n = 0 := by omega
  have h2 : m.tdiv n = m / n := Int.tdiv_eq_ediv_of_nonneg h0.1
  simp [Bb hx, Bb hy, eqGuard, binOp, Op.intDiv, h1, h2, show k.wrap (m / n) = m / n from hf]
theorem r_rem {t t' : TypeId} {x y : Operand} {k : IntKind} {m n q : Int} (hop : o.op = .binOp .rem t x y t') (hx : evO a x = some (.int k m)) (hy : evO a y = some (.int k n)) (h0 : 0 ≤ m ∧ 0 < n) (hq : m % n = q) : (execOp a.eval o).run P w = .ok (.value (.int k q)) w := by
  unfold execOp; rw [hop]; subst hq
  have h1 : ¬ n = 0 := by omega
  have h2 : m.tmod n = m % n := Int.tmod_eq_emod_of_nonneg h0.1
  simp [Bb hx, Bb hy, eqGuard, binOp, Op.intDiv, h1, h2]
/-- Comparisons: what they ask. -/
def cmpP : BinOp → Int → Int → Option Prop
  | .lss, x, y => some (x < y)
  | .leq, x, y => some (x ≤ y)
  | .gtr, x, y => some (y < x)
  | .geq, x, y => some (y ≤ x)
  | .eql, x, y => some (x = y)
  | .neq, x, y => some (¬ x = y)
  | _, _, _ => none
theorem r_cmp {p : BinOp} {t t' : TypeId} {x y : Operand} {k : IntKind} {m n : Int} {b : Bool} {A : Prop} (hop : o.op = .binOp p t x y t') (hx : evO a x = some (.int k m)) (hy : evO a y = some (.int k n)) (hp : cmpP p m n = some A) (hb : b = true ↔ A) : (execOp a.eval o).run P w = .ok (.value (.bool b)) w := by
  unfold execOp; rw [hop]
  have e : ∀ c : Bool, (c = true ↔ A) → c = b := fun c hc => by
    cases b <;> cases c <;> simp_all
  cases p <;> simp only [cmpP, Option.some.injEq, reduceCtorEq] at hp <;> subst hp <;>
    (simp only [Bb hx, Bb hy, Sem.run_bind, eqGuard, binOp, Op.intCmp]; simp; refine e _ ?_; simp)
theorem r_cmp_t {p : BinOp} {t t' : TypeId} {x y : Operand} {k : IntKind} {m n : Int} {A : Prop} (hop : o.op = .binOp p t x y t') (hx : evO a x = some (.int k m)) (hy : evO a y = some (.int k n)) (hp : cmpP p m n = some A) (hA : A) : (execOp a.eval o).run P w = .ok (.value (.bool true)) w := r_cmp hop hx hy hp (by simp [hA])
theorem r_cmp_f {p : BinOp} {t t' : TypeId} {x y : Operand} {k : IntKind} {m n : Int} {A : Prop} (hop : o.op = .binOp p t x y t') (hx : evO a x = some (.int k m)) (hy : evO a y = some (.int k n)) (hp : cmpP p m n = some A) (hA : ¬ A) : (execOp a.eval o).run P w = .ok (.value (.bool false)) w := r_cmp hop hx hy hp (by simp [hA])
theorem s_cmp {p : BinOp} {t t' : TypeId} {x y : Operand} {k : IntKind} {m n : Int} {A : Prop} (hs : Stp P ops W) (hw : Region.wanted o (yielded ops a.tmps) = true) (hop : o.op = .binOp p t x y t') (hx : evO a x = some (.int k m)) (hy : evO a y = some (.int k n)) (hp : cmpP p m n = some A)
    (ht : A → W rest (a.put o.dst (.bool true)) w) (hf : ¬ A → W rest (a.put o.dst (.bool false)) w) : W (o :: rest) a w := by
  have hd : Bp o = false := by unfold Bp; rw [hop]
  by_cases hA : A
  · exact hs.go hw hd (r_cmp_t hop hx hy hp hA) (ht hA)
  · exact hs.go hw hd (r_cmp_f hop hx hy hp hA) (hf hA)

/-! ### Slices -/
theorem r_len {x : Operand} {t : TypeId} {p : Option Addr} {n c m : Nat} (hop : o.op = .call { callee := .builtin .len, args := #[x], argTypes := #[t] }) (hx : evO a x = some (.slice p n c)) (hm : ElT P t m) : (execOp a.eval o).run P w = .ok (.value (.int .i64 (n : Int))) w := by
  obtain ⟨e, hu, hs⟩ := elT_iff hm.is
  unfold execOp; rw [hop]
  simp [Bb hx, resolve, invoke, builtin, Builtin.len_, Sem.run_bind, run_underlying hu, goInt]
theorem r_cap {x : Operand} {t : TypeId} {p : Option Addr} {n c m : Nat} (hop : o.op = .call { callee := .builtin .cap, args := #[x], argTypes := #[t] }) (hx : evO a x = some (.slice p n c)) (hm : ElT P t m) : (execOp a.eval o).run P w = .ok (.value (.int .i64 (c : Int))) w := by
  obtain ⟨e, hu, hs⟩ := elT_iff hm.is
  unfold execOp; rw [hop]
  simp [Bb hx, resolve, invoke, builtin, Builtin.cap_, Sem.run_bind, run_underlying hu, goInt]
/-- A bound of a slice expression: none is d. -/
def bnd (a : Act) (d : Int) : Option Operand → Option Int
  | none => some d
  | some x => match evO a x with | some (.int _ i) => some i | _ => none
theorem run_sliceBound {k : IntKind} {i : Int} {y : Nat} {c : BoundsCode} (h : 0 ≤ i ∧ i ≤ (y : Int)) : (Instr.sliceBound (.int k i) y c).run P w = .ok i.toNat w := by
  simp [Instr.sliceBound, asIntOf, h.1, h.2]
theorem run_bounds {isS : Bool} {n c : Nat} {lo hi : Option Operand} {l h : Int} (hl : bnd a 0 lo = some l) (hh : bnd a n hi = some h) (h0 : 0 ≤ l ∧ l ≤ h ∧ h ≤ (c : Int)) :
    (Instr.sliceBounds isS n c (lo.map a.eval) (hi.map a.eval) none).run P w = .ok (l.toNat, h.toNat, c) w := by
  have e1 : ∀ {c' : BoundsCode} {d : Int} {x : Operand} {i : Int} {y : Nat}, bnd a d (some x) = some i → 0 ≤ i ∧ i ≤ (y : Int) → (Instr.sliceBound (a.eval x) y c').run P w = .ok i.toNat w := fun hx hi => by
    simp only [bnd] at hx
    split at hx
    · rename_i k j hj
      simp only [Option.some.injEq] at hx
      subst hx
      rw [Bb hj]
      exact run_sliceBound hi
    · cases hx
  have hh' : h = (h.toNat : Int) := by omega
  unfold Instr.sliceBounds
  cases lo with
  | none =>
    simp only [bnd, Option.some.injEq] at hl
    subst hl
    cases hi with
    | none =>
      simp only [bnd, Option.some.injEq] at hh
      subst hh
      simp
    | some y => simp [e1 hh ⟨by omega, h0.2.2⟩]
  | some x =>
    cases hi with
    | none =>
      simp only [bnd, Option.some.injEq] at hh
      subst hh
      simp [e1 hl ⟨h0.1, h0.2.1⟩]
    | some y =>
      have := e1 (c' := .sliceB) (y := h.toNat) hl ⟨h0.1, by omega⟩
      simp [Sem.run_bind, e1 hh ⟨by omega, h0.2.2⟩, this]
theorem r_slice {t : TypeId} {x : Operand} {lo hi : Option Operand} {b off n c m q n' c' : Nat} {l h : Int} (hop : o.op = .slice t x lo hi none) (hx : evO a x = some (.slice (some ⟨b, off, none⟩) n c)) (hm : ElT P t m) (hl : bnd a 0 lo = some l) (hh : bnd a n hi = some h) (h0 : 0 ≤ l ∧ l ≤ h ∧ h ≤ (c : Int) ∧ (l < (c : Int) ∨ l = 0))
    (hq : off + l.toNat * m = q) (hn : h.toNat - l.toNat = n') (hc : c - l.toNat = c') : (execOp a.eval o).run P w = .ok (.value (.slice (some ⟨b, q, none⟩) n' c')) w := by
  obtain ⟨e, hu, hs⟩ := elT_iff hm.is
  unfold execOp; rw [hop]
  have hb := run_bounds (P := P) (w := w) (isS := true) hl hh ⟨h0.1, h0.2.1, h0.2.2.1⟩
  have e1 : (if c = l.toNat then some (⟨b, off, none⟩ : Addr) else Option.map (fun x : Addr => x.add (l.toNat * m)) (some ⟨b, off, none⟩)) = some ⟨b, off + l.toNat * m, none⟩ := by
    by_cases hcl : c = l.toNat
    · have : l = 0 := by omega
      subst this
      simp only [Int.toNat_zero] at hcl ⊢
      rw [if_pos hcl, Nat.zero_mul, Nat.add_zero]
    · rw [if_neg hcl]
      simp [addr_add]
  simp only [Option.map_none]
  simp only [Bb hx, Instr.sliceAt, Instr.slice, Sem.run_bind, run_underlying hu, Result.andThen_ok, hb, run_sizeOf hs, e1, hq, hn, hc]
  rfl
theorem r_sliceA {t : TypeId} {x : Operand} {lo hi : Option Operand} {b off n m q n' c' : Nat} {l h : Int} (hop : o.op = .slice t x lo hi none) (hx : evO a x = some (.pointer (some ⟨b, off, none⟩))) (hm : ArT P t n m) (hl : bnd a 0 lo = some l) (hh : bnd a n hi = some h) (h0 : 0 ≤ l ∧ l ≤ h ∧ h ≤ (n : Int) ∧ l < (n : Int))
    (hq : off + l.toNat * m = q) (hn : h.toNat - l.toNat = n') (hc : n - l.toNat = c') : (execOp a.eval o).run P w = .ok (.value (.slice (some ⟨b, q, none⟩) n' c')) w := by
  obtain ⟨e, hu, hs⟩ := arT_iff hm.is
  unfold execOp; rw [hop]
  have hb := run_bounds (P := P) (w := w) (isS := false) hl hh ⟨h0.1, h0.2.1, h0.2.2.1⟩
  have hcl : ¬ n = l.toNat := by omega
  simp only [Option.map_none]
  simp only [Bb hx, Instr.sliceAt, Instr.sureAddr, Sem.run_bind, Sem.run_pure, run_underlying hu, Result.andThen_ok, hb, run_sizeOf hs, if_neg hcl, addr_add, hq, hn, hc]

/-! ### New blocks, and stores -/
theorem s_newP (hs : Stp P ops W) (hH : Own B H) (hS : H w L) (hw : Region.wanted o (yielded ops a.tmps) = true) (hd : Bp o = false) {cs : Array Value} {t : TypeId} (hr : (execOp a.eval o).run P w = .ok (.value (.pointer (some ⟨w.heap.size, 0, none⟩))) (w.alloc (.cells cs t)))
    (hk : ∀ (b : Nat) (w' : World), H w' ((b, cs, t) :: L) → W rest (a.put o.dst (.pointer (some ⟨b, 0, none⟩))) w') : W (o :: rest) a w :=
  hs.go hw hd hr (hk _ _ (hH.alloc cs t hS))
theorem s_newS (hs : Stp P ops W) (hH : Own B H) (hS : H w L) (hw : Region.wanted o (yielded ops a.tmps) = true) (hd : Bp o = false) {n c n' c' : Nat} {cs cs' : Array Value} {t : TypeId} (hr : (execOp a.eval o).run P w = .ok (.value (.slice (some ⟨w.heap.size, 0, none⟩) n c)) (w.alloc (.cells cs t)))
    (hn : n = n') (hc : c = c') (hcs : cs = cs') (hk : ∀ (b : Nat) (w' : World), H w' ((b, cs', t) :: L) → W rest (a.put o.dst (.slice (some ⟨b, 0, none⟩) n' c')) w') : W (o :: rest) a w := by
  subst hn hc hcs
  exact hs.go hw hd hr (hk _ _ (hH.alloc cs t hS))
theorem run_zero {t : TypeId} {cs : Array Value} (h : zeroT P t = some cs) : ∃ z, (zeroValue t).run P w = .ok z w ∧ z.cells = cs := by
  unfold zeroT at h
  cases hi : P.info? t with
  | none => simp [hi] at h
  | some i =>
    cases hz : i.zero with
    | none => simp [hi, hz] at h
    | some z =>
      simp [hi, hz] at h
      refine ⟨z, ?_, h⟩
      simp [zeroValue, Sem.run_bind, typeInfo, hi, hz]
theorem r_alloc {t : TypeId} {cs : Array Value} (hop : o.op = .alloc t) (hz : ZeroT P t cs) : (execOp a.eval o).run P w = .ok (.value (.pointer (some ⟨w.heap.size, 0, none⟩))) (w.alloc (.cells cs t)) := by
  obtain ⟨z, h1, h2⟩ := run_zero (w := w) hz.is
  unfold execOp; rw [hop]
  simp only [Instr.alloc, Sem.run_bind, h1, Result.andThen_ok, newVar, newRow, h2]
  rfl
theorem r_box {t : TypeId} {x : Operand} {cs : Array Value} (hop : o.op = .box t x) (hx : evO a x = some v) (hc : v.cells = cs) : (execOp a.eval o).run P w = .ok (.value (.pointer (some ⟨w.heap.size, 0, none⟩))) (w.alloc (.cells cs t)) := by
  unfold execOp; rw [hop]
  simp only [Bb hx, Instr.box, Sem.run_bind, newVar, newRow, hc]
  rfl
theorem run_store1 {b off : Nat} {cs : Array Value} {ty t : TypeId} (h1 : (P.info? t).map (·.size) = some 1) (hv : v.oneCell' = true) (hb : blk w b = some (.cells cs ty (0, 0))) (ho : off < csz cs) : (Instr.storeAt t (.pointer (some ⟨b, off, none⟩)) v).run P w = .ok () (w.setCell ⟨b, off, none⟩ v) := by
  have h := run_storeCells_at (P := P) b off ty [v] 0 cs w hb (by simp only [List.length_cons, List.length_nil]; unfold csz at ho; omega) (fun x hx => by simp only [List.mem_singleton] at hx; subst hx; exact hv)
  have hz : v.cells = #[v] := by cases v <;> first | rfl | (simp [Value.oneCell'] at hv)
  unfold Instr.storeAt Instr.sureAddr storeVar
  simp only [Sem.run_bind, Sem.run_pure, Result.andThen_ok, hz, run_sizeOf h1]
  have e : (#[v] : Array Value).toList = [v] := rfl
  simp only [List.size_toArray, List.length_cons, List.length_nil, ne_eq, not_true_eq_false, if_false]
  rw [setCell_eq_setRow w b off cs ty (0, 0) v hb]
  have : splice cs off [v].toArray = cs.setIfInBounds off v := by
    unfold splice
    apply Array.ext'
    have ho' : off < cs.size := ho
    apply List.ext_getElem?
    intro k
    simp only [Array.toList_setIfInBounds, List.getElem?_append, List.length_take, Array.length_toList, List.length_append, List.getElem?_drop, List.getElem?_set, List.length_cons, List.length_nil, List.getElem?_take, List.size_toArray, Array.getElem?_toList]
    by_cases hk : k < off
    · simp [hk, show min off cs.size = off by omega, show off ≠ k by omega, show k < off + 1 by omega]
    · by_cases hk2 : k = off
      · subst hk2; simp [show min k cs.size = k by omega, ho']
      · simp [show min off cs.size = off by omega, show ¬ k < off + 1 by omega, show off ≠ k by omega, show off + 1 + (k - (off + 1)) = k by omega]
  rw [← this]
  simpa using h
theorem s_store1 {t : TypeId} {x y : Operand} {b off : Nat} {cs : Array Value} {ty : TypeId} {L' : List Blk} {i : Nat} (hs : Stp P ops W) (hH : Own B H) (hS : H w L) (hw : Region.wanted o (yielded ops a.tmps) = true) (hop : o.op = .store t x y) (hx : evO a x = some (.pointer (some ⟨b, off, none⟩))) (hy : evO a y = some v)
    (h1 : OneT P t) (hv : v.oneCell' = true) (hi : L[i]? = some (b, cs, ty)) (ho : off < csz cs) (hL : L.set i (b, cs.setIfInBounds off v, ty) = L') (hk : ∀ w', H w' L' → W rest (a.put o.dst undef) w') : W (o :: rest) a w := by
  have hr : (execOp a.eval o).run P w = .ok .skip (w.setCell ⟨b, off, none⟩ v) := by
    unfold execOp; rw [hop]
    simp only [Bb hx, Bb hy, Sem.run_bind, run_store1 h1.sz hv (hH.blk i hS hi) ho]
    rfl
  subst hL
  exact hs.mute hw (by unfold Bp; rw [hop]) hr (hk _ (hH.setCell i off v hS hi))
theorem s_storeR {t : TypeId} {x y : Operand} {n b off : Nat} {cs vs cs' : Array Value} {ty : TypeId} {L' : List Blk} {i : Nat} (hs : Stp P ops W) (hH : Own B H) (hS : H w L) (hw : Region.wanted o (yielded ops a.tmps) = true) (hop : o.op = .store t x y) (hx : evO a x = some (.pointer (some ⟨b, off, none⟩))) (hy : evO a y = some (.agg vs))
    (h1 : RowT P t n) (hn : csz vs = n) (hv : ones vs = true) (hi : L[i]? = some (b, cs, ty)) (ho : off + n ≤ csz cs) (hc : paste cs off vs = cs') (hL : L.set i (b, cs', ty) = L') (hk : ∀ w', H w' L' → W rest (a.put o.dst undef) w') : W (o :: rest) a w := by
  have hb := hH.blk i hS hi
  have hr : (execOp a.eval o).run P w = .ok .skip (w.setRow b cs') := by
    unfold execOp; rw [hop]
    have h := run_storeCells_at (P := P) b off ty vs.toList 0 cs w hb (by unfold csz at ho hn; simp; omega) (fun x hx => by
      unfold ones at hv
      rw [Array.all_eq_true_iff_forall_mem] at hv
      exact hv x (by simpa using hx))
    have hsz : ¬ vs.size ≠ n := by unfold csz at hn; simp [hn]
    simp only [Bb hx, Bb hy, Sem.run_bind, Instr.storeAt, Instr.sureAddr, storeVar, Sem.run_pure, Result.andThen_ok, Value.cells, run_sizeOf h1.sz, if_neg hsz]
    simp only [Nat.add_zero] at h
    rw [h, ← hc]
    have e : splice cs off vs.toList.toArray = paste cs off vs := by
      unfold paste
      split
      · rename_i h2
        obtain ⟨h3, h4⟩ := h2
        subst h3
        unfold csz at h4
        simp [splice, List.drop_of_length_le (show cs.toList.length ≤ vs.size by simp; omega)]
      · simp
    rw [e]
    rfl
  subst hL
  exact hs.mute hw (by unfold Bp; rw [hop]) hr (hk _ (hH.setRow i cs' hS hi))
end
section
variable {P : Program} {ops : Array Oper} {W : List Oper → Act → World → Prop} {Q : Exit → Act → World → Prop} {o : Oper} {rest : List Oper} {a : Act} {w w' : World} {v : Value} {B : Nat} {H : World → List Blk → Prop} {L : List Blk}
/-! ### Calls -/
theorem run_callFunc {f : FuncId} {args : Array Value} (h : isGo P f = true) : (callFunc f args).run P w = .ok (.enter f args) w := by
  unfold isGo at h
  cases hf : P.funcs[f]? with
  | none => simp [hf] at h
  | some fn =>
    simp only [hf, Bool.and_eq_true, bne_iff_ne, ne_eq] at h
    have h2 : fn.body.isNone = false := by
      cases hb : fn.body with
      | none => simp [hb] at h
      | some c => rfl
    unfold callFunc
    have hp : (program : Sem Program).run P w = .ok P w := rfl
    simp only [Sem.run_bind, hp, Result.andThen_ok, hf]
    rw [if_neg (by simpa using h.1), if_neg (by rw [h2]; decide)]
    rfl
theorem s_call {x : Operand} {xs : Array Operand} {ts : Array TypeId} {f : FuncId} {first caps : Array Value} {vs : List Value} {args : Array Value} {R0 : Ending → World → Prop} (hs : Stp P ops W) (hw : Region.wanted o (yielded ops a.tmps) = true)
    (hop : o.op = .call { callee := .value x, args := xs, argTypes := ts }) (hx : evO a x = some (.func (.func f) first caps)) (hxs : evs a xs.toList = some vs) (hA : (first.toList ++ vs ++ caps.toList).toArray = args) (hf : GoF P f) (hc : Calls P f args w R0)
    (hk : ∀ e w', R0 e w' → ∃ v, e = .returned v ∧ W rest (a.put o.dst v) w') : W (o :: rest) a w := by
  have hr : (execOp a.eval o).run P w = .ok (.enter f args) w := by
    unfold execOp; rw [hop]
    have e1 : xs.map a.eval = vs.toArray := by
      have := evs_eval hxs
      apply Array.ext'
      simp [this]
    have e2 : first ++ xs.map a.eval ++ caps = args := by
      rw [e1, ← hA]
      apply Array.ext'
      simp
    simp only [resolve, Bb hx, Deferred.ofValue, Sem.run_bind, Sem.run_pure, Result.andThen_ok, invoke, e2]
    exact run_callFunc hf.is
  exact hs.enter hw (by unfold Bp; rw [hop]) hr (hc.mono hk) (fun v w'' h => h)
theorem Ac (h : wpList P ops Q (o :: rest) a w) : wpList P ops Q (o :: rest) a w := h
theorem cons_in {F : Fence} {n : Nat} (h : wpListIn F n P ops Q (o :: rest) a w) : wpListIn F n P ops Q (o :: rest) a w := h
end
theorem fits_u64 {n : Int} (h : 0 ≤ n ∧ n ≤ 18446744073709551615) : fits .u64 n := IntWalk.u64_in n h
theorem fits_u8 {n : Int} (h : 0 ≤ n ∧ n ≤ 255) : fits .u8 n := IntWalk.u8_in n h
theorem bvs_getL {l : List UInt8} {k : Nat} (h : k < l.length) : (bvs l).toList[k]? = some (.int .u8 ((l.getD k 0).toNat : Int)) := by rw [Array.getElem?_toList]; exact bvs_get h
theorem bytes_blk {w : World} {tb o n c : Nat} {l : List UInt8} (h : BytesAt w (.slice (some ⟨tb, o, none⟩) n c) l) (hn : 0 < l.length) :
    ∃ cs t fr, blk w tb = some (.cells cs t fr) ∧ ∀ k, k < l.length → cs[o + k]? = some (.int .u8 ((l.getD k 0).toNat : Int)) := by
  obtain ⟨p', c', hv, h1, h0, h3⟩ := h
  simp only [Value.slice.injEq] at hv
  obtain ⟨rfl, rfl, rfl⟩ := hv
  obtain ⟨b', o', cs, t, e, hp, hb, hx⟩ := h3 (by intro e; subst e; simp at hn)
  simp only [Option.some.injEq, Addr.mk.injEq, and_true] at hp
  obtain ⟨rfl, rfl⟩ := hp
  exact ⟨cs, t, e, hb, fun k hk => hx k _ (get_some hk)⟩
section
variable {P : Program} {ops : Array Oper} {W : List Oper → Act → World → Prop} {o : Oper} {rest : List Oper} {a : Act} {w w' : World} {v : Value} {B : Nat} {H : World → List Blk → Prop} {L : List Blk}
theorem fldT_iff {s k off n t : Nat} (h : fldT P s k = some (off, n, t)) : ∃ fs f, P.underlying s = some (.struct fs) ∧ fs[k]? = some f ∧ f.offset = off ∧ f.type = t ∧ (P.info? t).map (·.size) = some n ∧ ¬ n = 0 := by
  unfold fldT at h
  cases hu : P.underlying s with
  | none => simp [hu] at h
  | some d =>
    cases d <;> simp [hu] at h
    rename_i fs
    cases hf : fs[k]? with
    | none => simp [hf] at h
    | some f =>
      simp [hf] at h
      cases hi : P.info? f.type with
      | none => simp [hi] at h
      | some i =>
        simp [hi] at h
        obtain ⟨h0, h1, h2, h3⟩ := h
        exact ⟨fs, f, rfl, hf, h1, h3, by rw [← h3, hi]; simp [h2], by omega⟩
theorem r_fieldAddr {s : TypeId} {x : Operand} {k b off fo n q : Nat} (hop : o.op = .fieldAddr s x k) (hx : evO a x = some (.pointer (some ⟨b, off, none⟩))) (hf : FldT P s k fo n) (hq : off + fo = q) : (execOp a.eval o).run P w = .ok (.value (.pointer (some ⟨b, q, none⟩))) w := by
  obtain ⟨t, ht⟩ := hf.is
  obtain ⟨fs, f, hu, hk, h1, h2, h3, h4⟩ := fldT_iff ht
  unfold execOp; rw [hop]
  subst h2
  simp only [Bb hx, Instr.fieldAt, Instr.sureAddr, Sem.run_bind, Sem.run_pure, run_underlying hu, Result.andThen_ok, hk, fieldPlace, run_sizeOf h3, if_neg h4, addr_add, h1, hq]
theorem r_field1 {s : TypeId} {x : Operand} {k fo n : Nat} {cs : Array Value} (hop : o.op = .field s x k) (hx : evO a x = some (.agg cs)) (hf : FldV P s k fo n true) (hv' : cs.toList[fo]? = some v) : (execOp a.eval o).run P w = .ok (.value v) w := by
  have hv : cs[fo]? = some v := by rw [← Array.getElem?_toList]; exact hv'
  obtain ⟨t, ht, h5⟩ := hf.is
  rw [if_pos rfl] at h5
  obtain ⟨fs, f, hu, hk, h1, h2, h3, h4⟩ := fldT_iff ht
  unfold execOp; rw [hop]
  subst h2
  simp only [Bb hx, Instr.field, asAgg, Sem.run_bind, Sem.run_pure, run_underlying hu, Result.andThen_ok, hk, part, run_isAgg h5.1, h1, hv]
  rfl
theorem run_isAggR {t : TypeId} {n : Nat} (h : isRow P t n = true) : (isAgg t).run P w = .ok true w := by
  simp only [isRow, Bool.and_eq_true] at h
  cases hu : P.underlying t with
  | none => simp [hu] at h
  | some d =>
    unfold isAgg
    rw [Sem.run_bind, run_underlying hu]
    cases d <;> simp_all
theorem r_fieldR {s : TypeId} {x : Operand} {k fo n : Nat} {cs vs : Array Value} (hop : o.op = .field s x k) (hx : evO a x = some (.agg cs)) (hf : FldV P s k fo n false) (hv : cs.extract fo (fo + n) = vs) : (execOp a.eval o).run P w = .ok (.value (.agg vs)) w := by
  obtain ⟨t, ht, h5⟩ := hf.is
  rw [if_neg (by decide)] at h5
  obtain ⟨fs, f, hu, hk, h1, h2, h3, h4⟩ := fldT_iff ht
  unfold execOp; rw [hop]
  subst h2
  simp only [Bb hx, Instr.field, asAgg, Sem.run_bind, Sem.run_pure, run_underlying hu, Result.andThen_ok, hk, part, run_isAggR h5, run_sizeOf h3, if_true, h1, hv]
theorem r_makeInterface {t : TypeId} {x : Operand} (hop : o.op = .makeInterface t x) (hx : evO a x = some v) (hi : IfaceT P t) : (execOp a.eval o).run P w = .ok (.value (.iface t v)) w := by
  have h := hi.is
  unfold execOp; rw [hop]
  cases hu : P.underlying t with
  | none => simp [hu] at h
  | some d =>
    simp only [Bb hx, Instr.makeInterface, Sem.run_bind, run_underlying hu, Result.andThen_ok]
    cases d <;> simp_all <;> rfl
theorem r_makeFunc {fn : Fn} {first caps : Array Operand} {fs cs : List Value} (hop : o.op = .makeFunc fn first caps) (hf : evs a first.toList = some fs) (hc : evs a caps.toList = some cs) : (execOp a.eval o).run P w = .ok (.value (.func fn fs.toArray cs.toArray)) w := by
  unfold execOp; rw [hop]
  have e1 : first.map a.eval = fs.toArray := Array.ext' (by simp [evs_eval hf])
  have e2 : caps.map a.eval = cs.toArray := Array.ext' (by simp [evs_eval hc])
  simp only [e1, e2, Instr.makeFunc]
  rfl
/-- Two errors, or an error and none: are they the same? -/
theorem r_neqNil {t t' : TypeId} {x : Operand} {u : TypeId} {y : Value} (hop : o.op = .binOp .neq t x (.const .nilIface) t') (hx : evO a x = some (.iface u y)) (hi : IfT P t) : (execOp a.eval o).run P w = .ok (.value (.bool true)) w := by
  unfold execOp; rw [hop]
  simp only [Bb hx, show a.eval (.const .nilIface) = .nilIface from rfl, Sem.run_bind]
  have hg : (eqGuard .neq t x (.const .nilIface) (.iface u y) .nilIface).run P w = .ok () w := by unfold eqGuard; rfl
  simp only [hg, Result.andThen_ok, run_neq_held_nil _ t u y hi.is]
  rfl
theorem r_neqNil0 {t t' : TypeId} {x : Operand} (hop : o.op = .binOp .neq t x (.const .nilIface) t') (hx : evO a x = some .nilIface) (hi : IfT P t) : (execOp a.eval o).run P w = .ok (.value (.bool false)) w := by
  unfold execOp; rw [hop]
  simp only [Bb hx, show a.eval (.const .nilIface) = .nilIface from rfl, Sem.run_bind]
  have hg : (eqGuard .neq t x (.const .nilIface) .nilIface .nilIface).run P w = .ok () w := by unfold eqGuard; cases x <;> rfl
  simp only [hg, Result.andThen_ok, run_neq_nil_nil _ t hi.is]
  rfl
theorem r_eqlNil {t t' : TypeId} {x : Operand} {u : TypeId} {y : Value} (hop : o.op = .binOp .eql t x (.const .nilIface) t') (hx : evO a x = some (.iface u y)) (hi : IfT P t) : (execOp a.eval o).run P w = .ok (.value (.bool false)) w := by
  unfold execOp; rw [hop]
  simp only [Bb hx, show a.eval (.const .nilIface) = .nilIface from rfl, Sem.run_bind]
  have hg : (eqGuard .eql t x (.const .nilIface) (.iface u y) .nilIface).run P w = .ok () w := by unfold eqGuard; rfl
  simp only [hg, Result.andThen_ok, run_eql_held_nil _ t u y hi.is]
  rfl
theorem r_eqlNil0 {t t' : TypeId} {x : Operand} (hop : o.op = .binOp .eql t x (.const .nilIface) t') (hx : evO a x = some .nilIface) (hi : IfT P t) : (execOp a.eval o).run P w = .ok (.value (.bool true)) w := by
  unfold execOp; rw [hop]
  simp only [Bb hx, show a.eval (.const .nilIface) = .nilIface from rfl, Sem.run_bind]
  have hg : (eqGuard .eql t x (.const .nilIface) .nilIface .nilIface).run P w = .ok () w := by unfold eqGuard; cases x <;> rfl
  simp only [hg, Result.andThen_ok, run_eql_nil_nil _ t hi.is]
  rfl
end
section
variable {P : Program} {o : Oper} {a : Act} {w : World} {v : Value} {C : World → Prop}
/-! ### Regions that draw their order -/
theorem Cn (h : (execOp a.eval o).run P w = .ok (.value v) w) : o.quietAt P a C w v := by
  unfold Oper.quietAt
  rw [h]
  exact ⟨rfl, rfl⟩
theorem q_call {x : Operand} {xs : Array Operand} {ts : Array TypeId} {f : FuncId} {first caps : Array Value} {vs : List Value} {args : Array Value}
    (hop : o.op = .call { callee := .value x, args := xs, argTypes := ts }) (hx : evO a x = some (.func (.func f) first caps)) (hxs : evs a xs.toList = some vs) (hA : (first.toList ++ vs ++ caps.toList).toArray = args) (hf : GoF P f) (hc : Calls P f args w fun e w' => e = .returned v ∧ C w') : o.quietAt P a C w v := by
  have hr : (execOp a.eval o).run P w = .ok (.enter f args) w := by
    unfold execOp; rw [hop]
    have e1 : xs.map a.eval = vs.toArray := by
      have := evs_eval hxs
      apply Array.ext'
      simp [this]
    have e2 : first ++ xs.map a.eval ++ caps = args := by
      rw [e1, ← hA]
      apply Array.ext'
      simp
    simp only [resolve, Bb hx, Deferred.ofValue, Sem.run_bind, Sem.run_pure, Result.andThen_ok, invoke, e2]
    exact run_callFunc hf.is
  unfold Oper.quietAt
  rw [hr]
  exact ⟨rfl, hc⟩
end
section
variable {P : Program} {ops : Array Oper} {W : List Oper → Act → World → Prop} {o : Oper} {rest : List Oper} {a : Act} {w : World} {v : Value} {B : Nat} {H : World → List Blk → Prop} {L : List Blk}
/-! ### Calls and copies that write over a block of one's own -/
end
/-! ### An iterator hands something to a round -/
theorem s_yield {P : Program} {ops : Array Oper} {Q : Exit → Act → World → Prop} {o : Oper} {rest : List Oper} {a : Act} {w : World} {x : Operand} {xs : Array Operand} {ts : Array TypeId} {l n : Nat} {vs : List Value} {args : Array Value} {R : Ending → World → Prop}
    (hw : Region.wanted o (yielded ops a.tmps) = true) (hop : o.op = .call { callee := .value x, args := xs, argTypes := ts }) (hx : evO a x = some (.func (.yield l) #[] #[])) (hxs : evs a xs.toList = some vs) (hA : vs.toArray = args) (hY : YieldAt Fence.wide 0 P l args w R)
    (hk : ∀ e w', R e w' → ∃ v, e = .returned v ∧ wpListIn Fence.wide n P ops Q rest (a.put o.dst v) w') : wpListIn Fence.wide n P ops Q (o :: rest) a w := by
  obtain ⟨fn, tmps, assign, body, hy, hRo⟩ := hY
  have hr : (execOp a.eval o).run P w = .ok (.round l fn tmps assign body) w := by
    unfold execOp; rw [hop]
    have e1 : xs.map a.eval = args := by
      have := evs_eval hxs
      rw [← hA]
      apply Array.ext'
      simp [this]
    have e2 : #[] ++ xs.map a.eval = args := by rw [e1]; apply Array.ext'; simp
    simp only [resolve, Bb hx, Deferred.ofValue, Sem.run_bind, Sem.run_pure, Result.andThen_ok, invoke, e2, hy]
  unfold wpListIn
  rw [if_pos hw]
  unfold Oper.wpIn
  refine ⟨fun _ _ => trivial, ?_⟩
  rw [Oper.semAt_plain _ _ _ (by rw [hop]; intro c hc; cases hc), hr, Oper.uponIn_round]
  refine ⟨fun h => (by cases h), ?_⟩
  have hRo' : RoundIn Fence.wide (n - 1) P l fn tmps assign body w R := ⟨trivial, fun c cs _ => hRo.2 c cs (room_wide _)⟩
  refine hRo'.mono ?_
  intro e w' hR
  obtain ⟨v, rfl, h⟩ := hk e w' hR
  exact h
section
variable {P : Program} {ops : Array Oper} {W : List Oper → Act → World → Prop} {o : Oper} {rest : List Oper} {a : Act} {w : World} {v : Value} {B : Nat} {H : World → List Blk → Prop} {L : List Blk}
/-! ### append -/
theorem run_app {x y : Operand} {t : TypeId} {v1 v2 : Value} {w' : World} (hop : o.op = .call { callee := .builtin .append, args := #[x, y], argTypes := #[t, t] }) (hx : evO a x = some v1) (hy : evO a y = some v2) (h : (Builtin.append_ #[t, t] o.type #[v1, v2]).run P w = .ok v w') :
    (execOp a.eval o).run P w = .ok (.value v) w' := by
  unfold execOp; rw [hop]
  have e1 : #[x, y].map a.eval = #[v1, v2] := by simp [Bb hx, Bb hy]
  simp only [resolve, Sem.run_bind, Sem.run_pure, Result.andThen_ok, invoke, builtin, e1, h]
theorem s_append {x y : Operand} {t e size bytes b n c m c2 i nm : Nat} {q : Addr} {cs : Array Value} {olds spare xs : List Value} (hs : Stp P ops W) (hH : Own B H) (hS : H w L) (hw : Region.wanted o (yielded ops a.tmps) = true)
    (hop : o.op = .call { callee := .builtin .append, args := #[x, y], argTypes := #[t, t] }) (hx : evO a x = some (.slice (some ⟨b, 0, none⟩) n c)) (hy : evO a y = some (.slice (some q) m c2)) (hT : SlT P t e size bytes)
    (hi : L[i]? = some (b, cs, e)) (hcs : cs.toList = olds ++ spare) (ho : olds.length = n * size) (hnc : n ≤ c) (hsp : spare.length = (c - n) * size) (hsrc : ∀ j v, xs[j]? = some v → w.cell? (q.add j) = some v) (hxs : xs.length = m * size) (hone : ∀ v ∈ xs, v.oneCell' = true)
    (hmax : n + m ≤ maxLen ∧ (n + m) * bytes ≤ 140737488355328 ∧ c ≤ maxLen) (hnm : n + m = nm)
    (hk : ∀ (b' c' : Nat) (spare' : List Value) (w' : World), nm ≤ c' → c' ≤ maxLen → spare'.length = (c' - nm) * size → H w' ((b', (olds ++ xs ++ spare').toArray, e) :: L.eraseIdx i) → W rest (a.put o.dst (.slice (some ⟨b', 0, none⟩) nm c')) w') : W (o :: rest) a w := by
  subst hnm
  obtain ⟨ht, inf, z, hie, hz, hsz, hby, hzs, hpos⟩ := elemB_iff hT.is
  have hd : Bp o = false := by unfold Bp; rw [hop]
  have hb := hH.blk i hS hi
  have hcsz : cs.size = olds.length + spare.length := by rw [← Array.length_toList, hcs, List.length_append]
  by_cases hroom : n + m ≤ c
  · have hfit : n * inf.size + xs.length ≤ cs.size := by
      rw [hcsz, hsz, ho, hsp, hxs]
      have : m * size ≤ (c - n) * size := Nat.mul_le_mul_right _ (by omega)
      omega
    have hr := run_append_room (P := P) w t o.type e inf ht hie b n c cs hb q m c2 xs (by rw [hsz]; exact hxs) hsrc hone hroom hfit
    refine hs.go hw hd (run_app hop hx hy hr) ?_
    have hrow : (cs.toList.take (n * inf.size) ++ xs ++ cs.toList.drop (n * inf.size + xs.length)).toArray = (olds ++ xs ++ spare.drop xs.length).toArray := by
      rw [hcs, hsz, ← ho, List.take_left, List.drop_append, Nat.add_sub_cancel_left, List.drop_of_length_le (by omega), List.nil_append]
    rw [hrow]
    have h1 := hH.setRow i (olds ++ xs ++ spare.drop xs.length).toArray hS hi
    have hil : i < L.length := (List.getElem?_eq_some_iff.1 hi).1
    have h2 := hH.front h1 (i := i) (x := (b, (olds ++ xs ++ spare.drop xs.length).toArray, e)) (by rw [List.getElem?_set_self hil])
    rw [List.eraseIdx_set_eq] at h2
    refine hk b c _ _ hroom hmax.2.2 ?_ h2
    rw [List.length_drop, hsp, hxs, ← Nat.sub_mul]
    congr 1; omega
  · have hr := run_append_grow (P := P) (w := w) t o.type e inf z ht hie hz ⟨b, 0, none⟩ n c olds (by rw [hsz]; exact ho) (fun j u hu => by
      rw [addr_add, Nat.zero_add]
      refine (cell_of_row w b j cs e _ hb).trans ?_
      rw [← Array.getElem?_toList, hcs, List.getElem?_append_left (List.getElem?_eq_some_iff.1 hu).1, hu]) q m c2 xs (by rw [hsz]; exact hxs) hsrc (by omega) (by have := hmax.1; unfold maxLen at this; omega) (growslice_fits (by omega) (by rw [hby]; exact hmax.2.1))
    have hcap := grownCap_ge w (n + m) c e
    have hcm := grownCap_le_maxLen w (n + m) c e hmax.1
    refine hs.go hw hd (run_app hop hx hy hr) ?_
    generalize grownCap w (n + m) c e = c' at *
    have hcell : olds.toArray ++ xs.toArray ++ Builtin.zeroCells z.cells (c' - (n + m)) = (olds ++ xs ++ (Builtin.zeroCells z.cells (c' - (n + m))).toList).toArray := by
      apply Array.ext'; simp
    rw [hcell]
    have hS1 : H w.drew L := hH.call hS ⟨rfl, rfl, rfl, Nat.le_refl _, fun _ _ => rfl⟩
    have h2 := hH.alloc (olds ++ xs ++ (Builtin.zeroCells z.cells (c' - (n + m))).toList).toArray e hS1
    have hil : i < L.length := (List.getElem?_eq_some_iff.1 hi).1
    have h3 := hH.sub (L' := (w.drew.heap.size, (olds ++ xs ++ (Builtin.zeroCells z.cells (c' - (n + m))).toList).toArray, e) :: L.eraseIdx i) h2 (fun y hy => by
      rcases List.mem_cons.1 hy with rfl | hy
      · exact List.mem_cons_self ..
      · exact List.mem_cons_of_mem _ (List.mem_of_mem_eraseIdx hy)) (by
      have hn := hH.nodup h2
      simp only [List.map_cons, List.nodup_cons] at hn ⊢
      exact ⟨fun hm => hn.1 (by
        obtain ⟨y, hy, he⟩ := List.mem_map.1 hm
        exact List.mem_map.2 ⟨y, List.mem_of_mem_eraseIdx hy, he⟩), (hn.2.sublist ((List.eraseIdx_sublist L i).map _))⟩)
    refine hk _ c' _ _ hcap hcm ?_ h3
    rw [Array.length_toList, size_zeroCells, hzs]
theorem s_append0 {x y : Operand} {t e size bytes m c2 : Nat} {q : Addr} {xs : List Value} (hs : Stp P ops W) (hH : Own B H) (hS : H w L) (hw : Region.wanted o (yielded ops a.tmps) = true)
    (hop : o.op = .call { callee := .builtin .append, args := #[x, y], argTypes := #[t, t] }) (hx : evO a x = some (.slice none 0 0)) (hy : evO a y = some (.slice (some q) m c2)) (hT : SlT P t e size bytes)
    (hsrc : ∀ j v, xs[j]? = some v → w.cell? (q.add j) = some v) (hxs : xs.length = m * size) (hmax : 0 < m ∧ m ≤ maxLen ∧ m * bytes ≤ 140737488355328)
    (hk : ∀ (b' c' : Nat) (spare' : List Value) (w' : World), m ≤ c' → c' ≤ maxLen → spare'.length = (c' - m) * size → H w' ((b', (xs ++ spare').toArray, e) :: L) → W rest (a.put o.dst (.slice (some ⟨b', 0, none⟩) m c')) w') : W (o :: rest) a w := by
  obtain ⟨ht, inf, z, hie, hz, hsz, hby, hzs, hpos⟩ := elemB_iff hT.is
  have hd : Bp o = false := by unfold Bp; rw [hop]
  have hr := run_append_nil (P := P) (w := w) t o.type e inf z ht hie hz q m c2 xs (by rw [hsz]; exact hxs) hsrc hmax.1 (by have := hmax.2.1; unfold maxLen at this; omega) (by rw [hby]; omega)
  have hcap := grownCap_ge w m 0 e
  have hcm := grownCap_le_maxLen w m 0 e hmax.2.1
  refine hs.go hw hd (run_app hop hx hy hr) ?_
  generalize grownCap w m 0 e = c' at *
  have hcell : xs.toArray ++ Builtin.zeroCells z.cells (c' - m) = (xs ++ (Builtin.zeroCells z.cells (c' - m)).toList).toArray := by
    apply Array.ext'; simp
  rw [hcell]
  have hS1 : H w.drew L := hH.call hS ⟨rfl, rfl, rfl, Nat.le_refl _, fun _ _ => rfl⟩
  refine hk _ c' _ _ hcap hcm ?_ (hH.alloc _ e hS1)
  rw [Array.length_toList, size_zeroCells, hzs]
theorem src_blk {b off : Nat} {cs : Array Value} {t : TypeId} {fr : Nat × Nat} {xs : List Value} (hb : blk w b = some (.cells cs t fr)) (hc : ∀ j v, xs[j]? = some v → cs.toList[off + j]? = some v) : ∀ j v, xs[j]? = some v → w.cell? ((⟨b, off, none⟩ : Addr).add j) = some v := by
  intro j u hu
  rw [addr_add]
  exact (cell_of_row w b (off + j) cs t fr hb).trans (by rw [← Array.getElem?_toList]; exact hc j u hu)
end
section
variable {P : Program} {ops : Array Oper} {W : List Oper → Act → World → Prop} {o : Oper} {rest : List Oper} {a : Act} {w : World} {v : Value} {B : Nat} {H : World → List Blk → Prop} {L : List Blk}
/-! ### Slice literals; slices and nil -/
def evi (a : Act) : Nat → List (Nat × Operand) → Option (List Value)
  | _, [] => some []
  | k, (i, x) :: l => if i = k then (match evO a x, evi a (k + 1) l with
    | some v, some vs => some (v :: vs)
    | _, _ => none) else none
theorem evi_eval {a : Act} : ∀ {l : List (Nat × Operand)} {k : Nat} {vs : List Value}, evi a k l = some vs → l.map (fun y => (y.1, a.eval y.2)) = (vs.zipIdx k).map fun x => (x.2, x.1)
  | [], k, vs, h => by simp only [evi, Option.some.injEq] at h; subst h; rfl
  | (i, x) :: l, k, vs, h => by
    simp only [evi] at h
    split at h
    · rename_i hi
      subst hi
      split at h
      · rename_i v vs' h1 h2
        simp only [Option.some.injEq] at h
        subst h
        simp only [List.map_cons, Bb h1, evi_eval h2, List.zipIdx_cons]
      · cases h
    · cases h
theorem evi_len {a : Act} : ∀ {l : List (Nat × Operand)} {k : Nat} {vs : List Value}, evi a k l = some vs → vs.length = l.length
  | [], k, vs, h => by simp only [evi, Option.some.injEq] at h; subst h; rfl
  | (i, x) :: l, k, vs, h => by
    simp only [evi] at h
    split at h
    · split at h
      · rename_i v vs' h1 h2
        simp only [Option.some.injEq] at h
        subst h
        simp only [List.length_cons, evi_len h2]
      · cases h
    · cases h
theorem Cf {t e size bytes len : Nat} {parts : Array (Nat × Operand)} {vs : List Value} {cells : List Value} (hop : o.op = .buildSlice t len parts) (hp : evi a 0 parts.toList = some vs) (hT : SlT P t e size bytes) (hl : parts.toList.length = len) (h1 : ∀ v ∈ vs, v.cells.size = size) (hc : (vs.flatMap fun v => v.cells.toList) = cells) (hlen : len * size ≤ 2 ^ 24) (hpos : 0 < len) :
    (execOp a.eval o).run P w = .ok (.value (.slice (some ⟨w.heap.size, 0, none⟩) len len)) (w.alloc (.cells cells.toArray e)) := by
  obtain ⟨ht, inf, z, hie, hz2, hsz, hby, hzs, hps⟩ := elemB_iff hT.is
  have hvl : vs.length = len := by rw [evi_len hp, hl]
  unfold execOp; rw [hop]
  have e1 : (parts.map fun (i, x) => (i, a.eval x)).toList = (vs.zipIdx 0).map fun x => (x.2, x.1) := by
    rw [Array.toList_map]
    exact evi_eval hp
  have hne : ¬ len * inf.size = 0 := by rw [hsz]; exact Nat.ne_of_gt (Nat.mul_pos hpos hps)
  have hf := Great.fill_whole hps vs ((Array.range (len * size)).map (z.cells[· % z.cells.size]!)) h1 (by simp [hvl])
  have hr := Go.run_buildSlice (P := P) w t e len (parts.map fun (i, x) => (i, a.eval x)) _ inf z ht hie hz2 (by rw [hsz]; omega) hne (by rw [e1, hsz]; exact hf)
  simp only [Sem.run_bind, hr, Result.andThen_ok]
  subst hc
  rfl
theorem r_buildSlice0 {t e size bytes : Nat} (hop : o.op = .buildSlice t 0 #[]) (hT : SlT P t e size bytes) :
    (execOp a.eval o).run P w = .ok (.value (.slice (some ⟨w.heap.size, 0, none⟩) 0 0)) (w.alloc (.cells #[] e)) := by
  obtain ⟨ht, inf, z, hie, hz2, hsz, hby, hzs, hps⟩ := elemB_iff hT.is
  unfold execOp; rw [hop]
  simp [Instr.buildSlice, Sem.run_bind, run_underlying ht, sizeOf, typeInfo, hie, newRow, Instr.fill]
  congr 2
  apply Array.ext'; simp
theorem r_eqlSlNil {t t' e size bytes : Nat} {x : Operand} {p : Option Addr} {n c : Nat} (hop : o.op = .binOp .eql t x (.const (.slice none 0 0)) t') (hx : evO a x = some (.slice p n c)) (hT : SlT P t e size bytes) : (execOp a.eval o).run P w = .ok (.value (.bool p.isNone)) w := by
  obtain ⟨ht, _⟩ := elemB_iff hT.is
  unfold execOp; rw [hop]
  have hg : (eqGuard .eql t x (.const (.slice none 0 0)) (.slice p n c) (.slice none 0 0)).run P w = .ok () w := by unfold eqGuard; rfl
  simp only [Bb hx, show a.eval (.const (.slice none 0 0)) = .slice none 0 0 from rfl, Sem.run_bind, hg, Result.andThen_ok, Lib.run_eql_slice_nil w t e p n c 0 0 ht]
  rfl
theorem r_neqSlNil {t t' e size bytes : Nat} {x : Operand} {p : Option Addr} {n c : Nat} (hop : o.op = .binOp .neq t x (.const (.slice none 0 0)) t') (hx : evO a x = some (.slice p n c)) (hT : SlT P t e size bytes) : (execOp a.eval o).run P w = .ok (.value (.bool (!p.isNone))) w := by
  obtain ⟨ht, _⟩ := elemB_iff hT.is
  unfold execOp; rw [hop]
  have hg : (eqGuard .neq t x (.const (.slice none 0 0)) (.slice p n c) (.slice none 0 0)).run P w = .ok () w := by unfold eqGuard; rfl
  simp only [Bb hx, show a.eval (.const (.slice none 0 0)) = .slice none 0 0 from rfl, Sem.run_bind, hg, Result.andThen_ok, run_neq_slice_nil_any w t e p n c 0 0 ht]
  rfl
/-- make: so many noughts. -/
theorem r_makeBytes {t e : Nat} {x y : Operand} {k k' : IntKind} {n c : Int} (hop : o.op = .makeSlice t x y) (hx : evO a x = some (.int k n)) (hy : evO a y = some (.int k' c)) (hT : SlT P t e 1 1) (hz : ZeroT P e #[.int .u8 0]) (h : 0 ≤ n ∧ n ≤ c ∧ c ≤ 140737488355328) :
    (execOp a.eval o).run P w = .ok (.value (.slice (some ⟨w.heap.size, 0, none⟩) n.toNat c.toNat)) (w.alloc (.cells (bvs (zs c.toNat)) e)) := by
  obtain ⟨ht, inf, z, hie, hz1, hsz, hby, _⟩ := elemB_iff hT.is
  have hz2 : z.cells = #[.int .u8 0] := by
    have := hz.is
    unfold zeroT at this
    simp [hie, hz1] at this
    exact this
  have hr := run_make (P := P) w t e inf z ht hie hz1 k k' n c h.1 h.2.1 (by rw [hby]; omega) (by omega)
  unfold execOp; rw [hop]
  simp only [Bb hx, Bb hy, Sem.run_bind, hr, hsz, Nat.mul_one, hz2, Result.andThen_ok]
  have := made_noughts c.toNat
  have e2 : (Value.int .u8 0).cells = #[.int .u8 0] := rfl
  rw [e2] at this
  rw [this]
  rfl
end
section
variable {P : Program} {ops : Array Oper} {W : List Oper → Act → World → Prop} {o : Oper} {rest : List Oper} {a : Act} {w : World} {v : Value} {B : Nat} {H : World → List Blk → Prop} {L : List Blk}
theorem r_sliceNil {t : TypeId} {x : Operand} {lo hi : Option Operand} {m : Nat} (hop : o.op = .slice t x lo hi none) (hx : evO a x = some (.slice none 0 0)) (hm : ElT P t m) (hl : bnd a 0 lo = some 0) (hh : bnd a 0 hi = some 0) : (execOp a.eval o).run P w = .ok (.value (.slice none 0 0)) w := by
  obtain ⟨e, hu, hs⟩ := elT_iff hm.is
  unfold execOp; rw [hop]
  have hb := run_bounds (P := P) (w := w) (isS := true) (n := 0) (c := 0) hl hh ⟨by omega, by omega, by omega⟩
  simp only [Option.map_none]
  simp only [Bb hx, Instr.sliceAt, Instr.slice, Sem.run_bind, run_underlying hu, Result.andThen_ok, hb, run_sizeOf hs]
  rfl
end
/-! ### Behind a loop over an iterator: the mark for what was deferred stays -/
def StD (w0 : World) (D : Nat) (w : World) (L : List Blk) : Prop := St w0 w L ∧ w.heap[D]? = some (.deferred (some []))
theorem own_stD {w0 : World} {D : Nat} : Own w0.heap.size (StD w0 D) where
  blk := fun i _ _ _ h hi => h.1.blk i hi
  call := fun h hb => ⟨h.1.call hb, (hb.block D (Array.getElem?_eq_some_iff.1 h.2).1).trans h.2⟩
  alloc := fun cs t h => ⟨h.1.alloc cs t, (Below.heap_alloc _ _ _ (Array.getElem?_eq_some_iff.1 h.2).1).trans h.2⟩
  setRow := fun {w} {L} i {b} {cs} {t} cs' h hi => ⟨h.1.setRow i hi cs', (setRow_other w b D cs' (fun e => by
    have h1 : w.heap[b]? = some (.cells cs t (0, 0)) := h.1.blk i hi
    rw [← e, h.2] at h1
    cases h1)).trans h.2⟩
  size := fun h => h.1.1.size
  add := fun h hB hn hb => ⟨h.1.add hB hn hb, h.2⟩
  nodup := fun h => h.1.2.2
  sub := fun h hx hn => ⟨⟨h.1.1, fun x hm => h.1.2.1 x (hx x hm), hn⟩, h.2⟩
theorem StD.far {w0 wr : World} {D : Nat} {L : List Blk} (h : StD w0 D wr L) {b : Nat} {cs : Array Value} {t : TypeId} {fr : Nat × Nat} (hb : Go.Proofs.Ytcjncidahjneaaa.blk w0 b = some (.cells cs t fr)) : Go.Proofs.Ytcjncidahjneaaa.blk wr b = some (.cells cs t fr) ∧ (∀ o, wr.cell? ⟨b, o, none⟩ = cs[o]?) ∧ b < w0.heap.size ∧ b < wr.heap.size ∧ ¬ b = wr.heap.size := h.1.far hb
theorem StD.shut {w0 wr : World} {D : Nat} {L : List Blk} (h : StD w0 D wr L) (h0 : w0.heap.size ≤ D) : St w0 (wr.putObj D (.deferred none)) L := h.1.shut h.2 (fun _ _ _ e => by cases e) h0 _
theorem r_conv {P : Program} {o : Oper} {a : Act} {w : World} {s t : TypeId} {x : Operand} {k k' ks : IntKind} {n q : Int} (hop : o.op = .convert s t x) (hx : evO a x = some (.int k n)) (hs : IntT P s ks) (ht : IntT P t k') (hf : fits k' n) (hq : n = q) : (execOp a.eval o).run P w = .ok (.value (.int k' q)) w := by
  unfold execOp; rw [hop]; subst hq
  simp only [Bb hx, convert, Sem.run_bind, run_underlying hs.is, run_underlying ht.is, Result.andThen_ok, Conv.intToInt]
  rw [show k'.wrap n = n from hf]
  rfl
end Go.Proofs.Ytcjncidahjneaaa

namespace Go.Proofs.Ytcjncidahjneaaa
open Go.RowKit
section
variable {P : Program} {ops : Array Oper} {W : List Oper → Act → World → Prop} {o : Oper} {rest : List Oper} {a : Act} {w : World} {v : Value} {B : Nat} {H : World → List Blk → Prop} {L : List Blk} {C : World → Prop}
theorem Al {x : Operand} (hStp : Stp P ops W) (hk : W rest (a.put o.dst (v)) w) (hop : o.op = .move x := by rfl) (hx : evO a x = some v := by rfl) (hw : Region.wanted o (yielded ops a.tmps) = true := by rfl) (hd : Bp o = false := by rfl) : W (o :: rest) a w := hStp.go hw hd (r_move hop hx) hk
theorem q_move {x : Operand} (hop : o.op = .move x := by rfl) (hx : evO a x = some v := by rfl) : o.quietAt P a C w (v) := Cn (r_move hop hx)
theorem Af {x : Operand} (hStp : Stp P ops W) (hk : W rest (a.put o.dst (v)) w) (hop : o.op = .assign x := by rfl) (hx : evO a x = some v := by rfl) (hw : Region.wanted o (yielded ops a.tmps) = true := by rfl) (hd : Bp o = false := by rfl) : W (o :: rest) a w := hStp.go hw hd (r_assign hop hx) hk
theorem Dh {x : Operand} (hop : o.op = .assign x := by rfl) (hx : evO a x = some v := by rfl) : o.quietAt P a C w (v) := Cn (r_assign hop hx)
theorem Av {t : TypeId} {x : Operand} {b off : Nat} {cs : Array Value} {ty : TypeId} {i : Nat} (hStp : Stp P ops W) (hH : Own B H) (hS : H w L) (hk : W rest (a.put o.dst (v)) w) (hop : o.op = .load t x := by rfl) (hx : evO a x = some (.pointer (some ⟨b, off, none⟩)) := by rfl) (h1 : OneT P t := by infer_instance) (hi : L[i]? = some (b, cs, ty) := by first | exact at_ 0 rfl | exact at_ 1 rfl | exact at_ 2 rfl | exact at_ 3 rfl | exact at_ 4 rfl | exact at_ 5 rfl | exact at_ 6 rfl | exact at_ 7 rfl | exact at_ 8 rfl | exact at_ 9 rfl | exact at_ 10 rfl | exact at_ 11 rfl | exact at_ 12 rfl | exact at_ 13 rfl) (hv : cs.toList[off]? = some v := by first | rfl | exact bvs_getL (by (try simp only [List.length_append, List.length_set, zs_len, List.length_take, List.length_drop, List.length_cons, List.length_nil, List.length_map]); omega)) (hw : Region.wanted o (yielded ops a.tmps) = true := by rfl) (hd : Bp o = false := by rfl) : W (o :: rest) a w := hStp.go hw hd (r_load1 hop hx h1 (hH.blk i hS hi) hv) hk
theorem q_load1 {t : TypeId} {x : Operand} {b off : Nat} {cs : Array Value} {ty : TypeId} {i : Nat} (hH : Own B H) (hS : H w L) (hop : o.op = .load t x := by rfl) (hx : evO a x = some (.pointer (some ⟨b, off, none⟩)) := by rfl) (h1 : OneT P t := by infer_instance) (hi : L[i]? = some (b, cs, ty) := by first | exact at_ 0 rfl | exact at_ 1 rfl | exact at_ 2 rfl | exact at_ 3 rfl | exact at_ 4 rfl | exact at_ 5 rfl | exact at_ 6 rfl | exact at_ 7 rfl | exact at_ 8 rfl | exact at_ 9 rfl | exact at_ 10 rfl | exact at_ 11 rfl | exact at_ 12 rfl | exact at_ 13 rfl) (hv : cs.toList[off]? = some v := by first | rfl | exact bvs_getL (by (try simp only [List.length_append, List.length_set, zs_len, List.length_take, List.length_drop, List.length_cons, List.length_nil, List.length_map]); omega)) : o.quietAt P a C w (v) := Cn (r_load1 hop hx h1 (hH.blk i hS hi) hv)
theorem Bs {t : TypeId} {x : Operand} {b off : Nat} {cs : Array Value} {ty : TypeId} {fr : Nat × Nat} (hStp : Stp P ops W) (hb : blk w b = some (.cells cs ty fr)) (hk : W rest (a.put o.dst (v)) w) (hop : o.op = .load t x := by rfl) (hx : evO a x = some (.pointer (some ⟨b, off, none⟩)) := by rfl) (h1 : OneT P t := by infer_instance) (hv : cs.toList[off]? = some v := by first | rfl | exact bvs_getL (by (try simp only [List.length_append, List.length_set, zs_len, List.length_take, List.length_drop, List.length_cons, List.length_nil, List.length_map]); omega)) (hw : Region.wanted o (yielded ops a.tmps) = true := by rfl) (hd : Bp o = false := by rfl) : W (o :: rest) a w := hStp.go hw hd (r_load1 hop hx h1 hb hv) hk
theorem q_load1F {t : TypeId} {x : Operand} {b off : Nat} {cs : Array Value} {ty : TypeId} {fr : Nat × Nat} (hb : blk w b = some (.cells cs ty fr)) (hop : o.op = .load t x := by rfl) (hx : evO a x = some (.pointer (some ⟨b, off, none⟩)) := by rfl) (h1 : OneT P t := by infer_instance) (hv : cs.toList[off]? = some v := by first | rfl | exact bvs_getL (by (try simp only [List.length_append, List.length_set, zs_len, List.length_take, List.length_drop, List.length_cons, List.length_nil, List.length_map]); omega)) : o.quietAt P a C w (v) := Cn (r_load1 hop hx h1 hb hv)
theorem Ba {t : TypeId} {x : Operand} {n b off : Nat} {cs vs : Array Value} {ty : TypeId} {i : Nat} (hStp : Stp P ops W) (hH : Own B H) (hS : H w L) (hk : W rest (a.put o.dst ((.agg vs))) w) (hop : o.op = .load t x := by rfl) (hx : evO a x = some (.pointer (some ⟨b, off, none⟩)) := by rfl) (h1 : RowT P t n := by infer_instance) (hi : L[i]? = some (b, cs, ty) := by first | exact at_ 0 rfl | exact at_ 1 rfl | exact at_ 2 rfl | exact at_ 3 rfl | exact at_ 4 rfl | exact at_ 5 rfl | exact at_ 6 rfl | exact at_ 7 rfl | exact at_ 8 rfl | exact at_ 9 rfl | exact at_ 10 rfl | exact at_ 11 rfl | exact at_ 12 rfl | exact at_ 13 rfl) (hn : off + n ≤ csz cs := by (try simp only [Bn, Bg, Bm, List.length_append, List.length_set, zs_len, List.length_take, List.length_drop, List.length_cons, List.length_nil, List.length_map]); first | done | rfl | omega) (hv : cut cs off n = vs := by first | exact Bo _ _ (by (try simp only [Bn, Bg, Bm, List.length_append, List.length_set, zs_len, List.length_take, List.length_drop, List.length_cons, List.length_nil, List.length_map]); first | done | rfl | omega) | rfl) (hw : Region.wanted o (yielded ops a.tmps) = true := by rfl) (hd : Bp o = false := by rfl) : W (o :: rest) a w := hStp.go hw hd (r_loadR hop hx h1 (hH.blk i hS hi) hn hv) hk
theorem q_loadR {t : TypeId} {x : Operand} {n b off : Nat} {cs vs : Array Value} {ty : TypeId} {i : Nat} (hH : Own B H) (hS : H w L) (hop : o.op = .load t x := by rfl) (hx : evO a x = some (.pointer (some ⟨b, off, none⟩)) := by rfl) (h1 : RowT P t n := by infer_instance) (hi : L[i]? = some (b, cs, ty) := by first | exact at_ 0 rfl | exact at_ 1 rfl | exact at_ 2 rfl | exact at_ 3 rfl | exact at_ 4 rfl | exact at_ 5 rfl | exact at_ 6 rfl | exact at_ 7 rfl | exact at_ 8 rfl | exact at_ 9 rfl | exact at_ 10 rfl | exact at_ 11 rfl | exact at_ 12 rfl | exact at_ 13 rfl) (hn : off + n ≤ csz cs := by (try simp only [Bn, Bg, Bm, List.length_append, List.length_set, zs_len, List.length_take, List.length_drop, List.length_cons, List.length_nil, List.length_map]); first | done | rfl | omega) (hv : cut cs off n = vs := by first | exact Bo _ _ (by (try simp only [Bn, Bg, Bm, List.length_append, List.length_set, zs_len, List.length_take, List.length_drop, List.length_cons, List.length_nil, List.length_map]); first | done | rfl | omega) | rfl) : o.quietAt P a C w ((.agg vs)) := Cn (r_loadR hop hx h1 (hH.blk i hS hi) hn hv)
theorem Da {t : TypeId} {x : Operand} {n b off : Nat} {cs vs : Array Value} {ty : TypeId} {fr : Nat × Nat} (hStp : Stp P ops W) (hb : blk w b = some (.cells cs ty fr)) (hk : W rest (a.put o.dst ((.agg vs))) w) (hop : o.op = .load t x := by rfl) (hx : evO a x = some (.pointer (some ⟨b, off, none⟩)) := by rfl) (h1 : RowT P t n := by infer_instance) (hn : off + n ≤ csz cs := by (try simp only [Bn, Bg, Bm, List.length_append, List.length_set, zs_len, List.length_take, List.length_drop, List.length_cons, List.length_nil, List.length_map]); first | done | rfl | omega) (hv : cut cs off n = vs := by first | exact Bo _ _ (by (try simp only [Bn, Bg, Bm, List.length_append, List.length_set, zs_len, List.length_take, List.length_drop, List.length_cons, List.length_nil, List.length_map]); first | done | rfl | omega) | rfl) (hw : Region.wanted o (yielded ops a.tmps) = true := by rfl) (hd : Bp o = false := by rfl) : W (o :: rest) a w := hStp.go hw hd (r_loadR hop hx h1 hb hn hv) hk
theorem q_loadRF {t : TypeId} {x : Operand} {n b off : Nat} {cs vs : Array Value} {ty : TypeId} {fr : Nat × Nat} (hb : blk w b = some (.cells cs ty fr)) (hop : o.op = .load t x := by rfl) (hx : evO a x = some (.pointer (some ⟨b, off, none⟩)) := by rfl) (h1 : RowT P t n := by infer_instance) (hn : off + n ≤ csz cs := by (try simp only [Bn, Bg, Bm, List.length_append, List.length_set, zs_len, List.length_take, List.length_drop, List.length_cons, List.length_nil, List.length_map]); first | done | rfl | omega) (hv : cut cs off n = vs := by first | exact Bo _ _ (by (try simp only [Bn, Bg, Bm, List.length_append, List.length_set, zs_len, List.length_take, List.length_drop, List.length_cons, List.length_nil, List.length_map]); first | done | rfl | omega) | rfl) : o.quietAt P a C w ((.agg vs)) := Cn (r_loadR hop hx h1 hb hn hv)
theorem Ag {t : TypeId} {x y : Operand} {m b off n c q : Nat} {k : IntKind} {i : Int} (hStp : Stp P ops W) (hk : W rest (a.put o.dst ((.pointer (some ⟨b, q, none⟩)))) w) (hop : o.op = .indexAddr t x y := by rfl) (hx : evO a x = some (.slice (some ⟨b, off, none⟩) n c) := by rfl) (hy : evO a y = some (.int k i) := by rfl) (hm : ElT P t m := by infer_instance) (h0 : 0 ≤ i ∧ i < (n : Int) := by omega) (hq : off + i.toNat * m = q := by (try conv => lhs; simp only [Int.toNat_natCast, Int.toNat_zero, Int.toNat_one, Int.reduceToNat, Int.toNat_natCast_add_one, Int.ofNat_eq_natCast, Nat.mul_one, Nat.one_mul, Nat.zero_add, Nat.add_zero, Nat.sub_zero, Nat.zero_mul, Nat.reduceAdd, Nat.reduceMul, Nat.reduceSub]); first | done | rfl) (hw : Region.wanted o (yielded ops a.tmps) = true := by rfl) (hd : Bp o = false := by rfl) : W (o :: rest) a w := hStp.go hw hd (r_indexAddr hop hx hy hm h0 hq) hk
theorem Ci {t : TypeId} {x y : Operand} {m b off n c q : Nat} {k : IntKind} {i : Int} (hop : o.op = .indexAddr t x y := by rfl) (hx : evO a x = some (.slice (some ⟨b, off, none⟩) n c) := by rfl) (hy : evO a y = some (.int k i) := by rfl) (hm : ElT P t m := by infer_instance) (h0 : 0 ≤ i ∧ i < (n : Int) := by omega) (hq : off + i.toNat * m = q := by (try conv => lhs; simp only [Int.toNat_natCast, Int.toNat_zero, Int.toNat_one, Int.reduceToNat, Int.toNat_natCast_add_one, Int.ofNat_eq_natCast, Nat.mul_one, Nat.one_mul, Nat.zero_add, Nat.add_zero, Nat.sub_zero, Nat.zero_mul, Nat.reduceAdd, Nat.reduceMul, Nat.reduceSub]); first | done | rfl) : o.quietAt P a C w ((.pointer (some ⟨b, q, none⟩))) := Cn (r_indexAddr hop hx hy hm h0 hq)
theorem Ae {t : TypeId} {x y : Operand} {m b off n q : Nat} {k : IntKind} {i : Int} (hStp : Stp P ops W) (hk : W rest (a.put o.dst ((.pointer (some ⟨b, q, none⟩)))) w) (hop : o.op = .indexAddr t x y := by rfl) (hx : evO a x = some (.pointer (some ⟨b, off, none⟩)) := by rfl) (hy : evO a y = some (.int k i) := by rfl) (hm : ArT P t n m := by infer_instance) (h0 : 0 ≤ i ∧ i < (n : Int) := by omega) (hq : off + i.toNat * m = q := by (try conv => lhs; simp only [Int.toNat_natCast, Int.toNat_zero, Int.toNat_one, Int.reduceToNat, Int.toNat_natCast_add_one, Int.ofNat_eq_natCast, Nat.mul_one, Nat.one_mul, Nat.zero_add, Nat.add_zero, Nat.sub_zero, Nat.zero_mul, Nat.reduceAdd, Nat.reduceMul, Nat.reduceSub]); first | done | rfl) (hw : Region.wanted o (yielded ops a.tmps) = true := by rfl) (hd : Bp o = false := by rfl) : W (o :: rest) a w := hStp.go hw hd (r_indexAddrA hop hx hy hm h0 hq) hk
theorem Cb {t : TypeId} {x y : Operand} {m b off n q : Nat} {k : IntKind} {i : Int} (hop : o.op = .indexAddr t x y := by rfl) (hx : evO a x = some (.pointer (some ⟨b, off, none⟩)) := by rfl) (hy : evO a y = some (.int k i) := by rfl) (hm : ArT P t n m := by infer_instance) (h0 : 0 ≤ i ∧ i < (n : Int) := by omega) (hq : off + i.toNat * m = q := by (try conv => lhs; simp only [Int.toNat_natCast, Int.toNat_zero, Int.toNat_one, Int.reduceToNat, Int.toNat_natCast_add_one, Int.ofNat_eq_natCast, Nat.mul_one, Nat.one_mul, Nat.zero_add, Nat.add_zero, Nat.sub_zero, Nat.zero_mul, Nat.reduceAdd, Nat.reduceMul, Nat.reduceSub]); first | done | rfl) : o.quietAt P a C w ((.pointer (some ⟨b, q, none⟩))) := Cn (r_indexAddrA hop hx hy hm h0 hq)
theorem Be {x : Operand} {t : TypeId} {p : Option Addr} {n c m : Nat} (hStp : Stp P ops W) (hk : W rest (a.put o.dst ((.int .i64 (n : Int)))) w) (hop : o.op = .call { callee := .builtin .len, args := #[x], argTypes := #[t] } := by rfl) (hx : evO a x = some (.slice p n c) := by rfl) (hm : ElT P t m := by infer_instance) (hw : Region.wanted o (yielded ops a.tmps) = true := by rfl) (hd : Bp o = false := by rfl) : W (o :: rest) a w := hStp.go hw hd (r_len hop hx hm) hk
theorem q_len {x : Operand} {t : TypeId} {p : Option Addr} {n c m : Nat} (hop : o.op = .call { callee := .builtin .len, args := #[x], argTypes := #[t] } := by rfl) (hx : evO a x = some (.slice p n c) := by rfl) (hm : ElT P t m := by infer_instance) : o.quietAt P a C w ((.int .i64 (n : Int))) := Cn (r_len hop hx hm)
theorem g_cap {x : Operand} {t : TypeId} {p : Option Addr} {n c m : Nat} (hStp : Stp P ops W) (hk : W rest (a.put o.dst ((.int .i64 (c : Int)))) w) (hop : o.op = .call { callee := .builtin .cap, args := #[x], argTypes := #[t] } := by rfl) (hx : evO a x = some (.slice p n c) := by rfl) (hm : ElT P t m := by infer_instance) (hw : Region.wanted o (yielded ops a.tmps) = true := by rfl) (hd : Bp o = false := by rfl) : W (o :: rest) a w := hStp.go hw hd (r_cap hop hx hm) hk
theorem q_cap {x : Operand} {t : TypeId} {p : Option Addr} {n c m : Nat} (hop : o.op = .call { callee := .builtin .cap, args := #[x], argTypes := #[t] } := by rfl) (hx : evO a x = some (.slice p n c) := by rfl) (hm : ElT P t m := by infer_instance) : o.quietAt P a C w ((.int .i64 (c : Int))) := Cn (r_cap hop hx hm)
theorem Bl {x : Operand} {k : Nat} {vs : Array Value} (hStp : Stp P ops W) (hk : W rest (a.put o.dst (v)) w) (hop : o.op = .extract x k := by rfl) (hx : evO a x = some (.tuple vs) := by rfl) (hv : vs.toList[k]? = some v := by rfl) (hw : Region.wanted o (yielded ops a.tmps) = true := by rfl) (hd : Bp o = false := by rfl) : W (o :: rest) a w := hStp.go hw hd (r_extract hop hx hv) hk
theorem Cy {x : Operand} {k : Nat} {vs : Array Value} (hop : o.op = .extract x k := by rfl) (hx : evO a x = some (.tuple vs) := by rfl) (hv : vs.toList[k]? = some v := by rfl) : o.quietAt P a C w (v) := Cn (r_extract hop hx hv)
theorem Bd {t t' : TypeId} {x y : Operand} {k : IntKind} {m n q : Int} (hStp : Stp P ops W) (hk : W rest (a.put o.dst ((.int k q))) w) (hop : o.op = .binOp .add t x y t' := by rfl) (hx : evO a x = some (.int k m) := by rfl) (hy : evO a y = some (.int k n) := by rfl) (hf : fits k (m + n) := by first | exact fits_i64 (by omega) | exact fits_u8 (by omega) | exact fits_u64 (by omega)) (hq : m + n = q := by (try conv => lhs; simp only [Int.cast_ofNat_Int, Int.add_sub_cancel, Int.sub_add_cancel, Int.zero_add, Int.add_zero, Int.sub_zero, Int.reduceAdd, Int.reduceSub, Int.reduceMul, Int.reduceDiv, Int.reduceMod, Int.natCast_zero]); first | done | rfl) (hw : Region.wanted o (yielded ops a.tmps) = true := by rfl) (hd : Bp o = false := by rfl) : W (o :: rest) a w := hStp.go hw hd (r_add hop hx hy hf hq) hk
theorem q_add {t t' : TypeId} {x y : Operand} {k : IntKind} {m n q : Int} (hop : o.op = .binOp .add t x y t' := by rfl) (hx : evO a x = some (.int k m) := by rfl) (hy : evO a y = some (.int k n) := by rfl) (hf : fits k (m + n) := by first | exact fits_i64 (by omega) | exact fits_u8 (by omega) | exact fits_u64 (by omega)) (hq : m + n = q := by (try conv => lhs; simp only [Int.cast_ofNat_Int, Int.add_sub_cancel, Int.sub_add_cancel, Int.zero_add, Int.add_zero, Int.sub_zero, Int.reduceAdd, Int.reduceSub, Int.reduceMul, Int.reduceDiv, Int.reduceMod, Int.natCast_zero]); first | done | rfl) : o.quietAt P a C w ((.int k q)) := Cn (r_add hop hx hy hf hq)
theorem Cj {t t' : TypeId} {x y : Operand} {k : IntKind} {m n q : Int} (hStp : Stp P ops W) (hk : W rest (a.put o.dst ((.int k q))) w) (hop : o.op = .binOp .sub t x y t' := by rfl) (hx : evO a x = some (.int k m) := by rfl) (hy : evO a y = some (.int k n) := by rfl) (hf : fits k (m - n) := by first | exact fits_i64 (by omega) | exact fits_u8 (by omega) | exact fits_u64 (by omega)) (hq : m - n = q := by (try conv => lhs; simp only [Int.cast_ofNat_Int, Int.add_sub_cancel, Int.sub_add_cancel, Int.zero_add, Int.add_zero, Int.sub_zero, Int.reduceAdd, Int.reduceSub, Int.reduceMul, Int.reduceDiv, Int.reduceMod, Int.natCast_zero]); first | done | rfl) (hw : Region.wanted o (yielded ops a.tmps) = true := by rfl) (hd : Bp o = false := by rfl) : W (o :: rest) a w := hStp.go hw hd (r_sub hop hx hy hf hq) hk
theorem q_sub {t t' : TypeId} {x y : Operand} {k : IntKind} {m n q : Int} (hop : o.op = .binOp .sub t x y t' := by rfl) (hx : evO a x = some (.int k m) := by rfl) (hy : evO a y = some (.int k n) := by rfl) (hf : fits k (m - n) := by first | exact fits_i64 (by omega) | exact fits_u8 (by omega) | exact fits_u64 (by omega)) (hq : m - n = q := by (try conv => lhs; simp only [Int.cast_ofNat_Int, Int.add_sub_cancel, Int.sub_add_cancel, Int.zero_add, Int.add_zero, Int.sub_zero, Int.reduceAdd, Int.reduceSub, Int.reduceMul, Int.reduceDiv, Int.reduceMod, Int.natCast_zero]); first | done | rfl) : o.quietAt P a C w ((.int k q)) := Cn (r_sub hop hx hy hf hq)
theorem Ca {t t' : TypeId} {x y : Operand} {k : IntKind} {m n q : Int} (hStp : Stp P ops W) (hk : W rest (a.put o.dst ((.int k q))) w) (hop : o.op = .binOp .mul t x y t' := by rfl) (hx : evO a x = some (.int k m) := by rfl) (hy : evO a y = some (.int k n) := by rfl) (hf : fits k (m * n) := by first | exact fits_i64 (by omega) | exact fits_u8 (by omega) | exact fits_u64 (by omega)) (hq : m * n = q := by (try conv => lhs; simp only [Int.cast_ofNat_Int, Int.add_sub_cancel, Int.sub_add_cancel, Int.zero_add, Int.add_zero, Int.sub_zero, Int.reduceAdd, Int.reduceSub, Int.reduceMul, Int.reduceDiv, Int.reduceMod, Int.natCast_zero]); first | done | rfl) (hw : Region.wanted o (yielded ops a.tmps) = true := by rfl) (hd : Bp o = false := by rfl) : W (o :: rest) a w := hStp.go hw hd (r_mul hop hx hy hf hq) hk
theorem q_mul {t t' : TypeId} {x y : Operand} {k : IntKind} {m n q : Int} (hop : o.op = .binOp .mul t x y t' := by rfl) (hx : evO a x = some (.int k m) := by rfl) (hy : evO a y = some (.int k n) := by rfl) (hf : fits k (m * n) := by first | exact fits_i64 (by omega) | exact fits_u8 (by omega) | exact fits_u64 (by omega)) (hq : m * n = q := by (try conv => lhs; simp only [Int.cast_ofNat_Int, Int.add_sub_cancel, Int.sub_add_cancel, Int.zero_add, Int.add_zero, Int.sub_zero, Int.reduceAdd, Int.reduceSub, Int.reduceMul, Int.reduceDiv, Int.reduceMod, Int.natCast_zero]); first | done | rfl) : o.quietAt P a C w ((.int k q)) := Cn (r_mul hop hx hy hf hq)
theorem Cz {t t' : TypeId} {x y : Operand} {k : IntKind} {m n q : Int} (hStp : Stp P ops W) (hk : W rest (a.put o.dst ((.int k q))) w) (hop : o.op = .binOp .quo t x y t' := by rfl) (hx : evO a x = some (.int k m) := by rfl) (hy : evO a y = some (.int k n) := by rfl) (h0 : 0 ≤ m ∧ 0 < n := by omega) (hf : fits k (m / n) := by first | exact fits_i64 (by omega) | exact fits_u8 (by omega) | exact fits_u64 (by omega)) (hq : m / n = q := by (try conv => lhs; simp only [Int.cast_ofNat_Int, Int.add_sub_cancel, Int.sub_add_cancel, Int.zero_add, Int.add_zero, Int.sub_zero, Int.reduceAdd, Int.reduceSub, Int.reduceMul, Int.reduceDiv, Int.reduceMod, Int.natCast_zero]); first | done | rfl) (hw : Region.wanted o (yielded ops a.tmps) = true := by rfl) (hd : Bp o = false := by rfl) : W (o :: rest) a w := hStp.go hw hd (r_quo hop hx hy h0 hf hq) hk
theorem q_quo {t t' : TypeId} {x y : Operand} {k : IntKind} {m n q : Int} (hop : o.op = .binOp .quo t x y t' := by rfl) (hx : evO a x = some (.int k m) := by rfl) (hy : evO a y = some (.int k n) := by rfl) (h0 : 0 ≤ m ∧ 0 < n := by omega) (hf : fits k (m / n) := by first | exact fits_i64 (by omega) | exact fits_u8 (by omega) | exact fits_u64 (by omega)) (hq : m / n = q := by (try conv => lhs; simp only [Int.cast_ofNat_Int, Int.add_sub_cancel, Int.sub_add_cancel, Int.zero_add, Int.add_zero, Int.sub_zero, Int.reduceAdd, Int.reduceSub, Int.reduceMul, Int.reduceDiv, Int.reduceMod, Int.natCast_zero]); first | done | rfl) : o.quietAt P a C w ((.int k q)) := Cn (r_quo hop hx hy h0 hf hq)
theorem Cq {t t' : TypeId} {x y : Operand} {k : IntKind} {m n q : Int} (hStp : Stp P ops W) (hk : W rest (a.put o.dst ((.int k q))) w) (hop : o.op = .binOp .rem t x y t' := by rfl) (hx : evO a x = some (.int k m) := by rfl) (hy : evO a y = some (.int k n) := by rfl) (h0 : 0 ≤ m ∧ 0 < n := by omega) (hq : m % n = q := by (try conv => lhs; simp only [Int.cast_ofNat_Int, Int.add_sub_cancel, Int.sub_add_cancel, Int.zero_add, Int.add_zero, Int.sub_zero, Int.reduceAdd, Int.reduceSub, Int.reduceMul, Int.reduceDiv, Int.reduceMod, Int.natCast_zero]); first | done | rfl) (hw : Region.wanted o (yielded ops a.tmps) = true := by rfl) (hd : Bp o = false := by rfl) : W (o :: rest) a w := hStp.go hw hd (r_rem hop hx hy h0 hq) hk
theorem q_rem {t t' : TypeId} {x y : Operand} {k : IntKind} {m n q : Int} (hop : o.op = .binOp .rem t x y t' := by rfl) (hx : evO a x = some (.int k m) := by rfl) (hy : evO a y = some (.int k n) := by rfl) (h0 : 0 ≤ m ∧ 0 < n := by omega) (hq : m % n = q := by (try conv => lhs; simp only [Int.cast_ofNat_Int, Int.add_sub_cancel, Int.sub_add_cancel, Int.zero_add, Int.add_zero, Int.sub_zero, Int.reduceAdd, Int.reduceSub, Int.reduceMul, Int.reduceDiv, Int.reduceMod, Int.natCast_zero]); first | done | rfl) : o.quietAt P a C w ((.int k q)) := Cn (r_rem hop hx hy h0 hq)
theorem Ak {p : BinOp} {t t' : TypeId} {x y : Operand} {k : IntKind} {m n : Int} {A : Prop} (hStp : Stp P ops W) (hk : W rest (a.put o.dst ((.bool true))) w) (hop : o.op = .binOp p t x y t' := by rfl) (hx : evO a x = some (.int k m) := by rfl) (hy : evO a y = some (.int k n) := by rfl) (hp : cmpP p m n = some A := by rfl) (hA : A := by omega) (hw : Region.wanted o (yielded ops a.tmps) = true := by rfl) (hd : Bp o = false := by rfl) : W (o :: rest) a w := hStp.go hw hd (r_cmp_t hop hx hy hp hA) hk
theorem q_cmp_t {p : BinOp} {t t' : TypeId} {x y : Operand} {k : IntKind} {m n : Int} {A : Prop} (hop : o.op = .binOp p t x y t' := by rfl) (hx : evO a x = some (.int k m) := by rfl) (hy : evO a y = some (.int k n) := by rfl) (hp : cmpP p m n = some A := by rfl) (hA : A := by omega) : o.quietAt P a C w ((.bool true)) := Cn (r_cmp_t hop hx hy hp hA)
theorem Aj {p : BinOp} {t t' : TypeId} {x y : Operand} {k : IntKind} {m n : Int} {A : Prop} (hStp : Stp P ops W) (hk : W rest (a.put o.dst ((.bool false))) w) (hop : o.op = .binOp p t x y t' := by rfl) (hx : evO a x = some (.int k m) := by rfl) (hy : evO a y = some (.int k n) := by rfl) (hp : cmpP p m n = some A := by rfl) (hA : ¬ A := by omega) (hw : Region.wanted o (yielded ops a.tmps) = true := by rfl) (hd : Bp o = false := by rfl) : W (o :: rest) a w := hStp.go hw hd (r_cmp_f hop hx hy hp hA) hk
theorem q_cmp_f {p : BinOp} {t t' : TypeId} {x y : Operand} {k : IntKind} {m n : Int} {A : Prop} (hop : o.op = .binOp p t x y t' := by rfl) (hx : evO a x = some (.int k m) := by rfl) (hy : evO a y = some (.int k n) := by rfl) (hp : cmpP p m n = some A := by rfl) (hA : ¬ A := by omega) : o.quietAt P a C w ((.bool false)) := Cn (r_cmp_f hop hx hy hp hA)
theorem Cg {t t' : TypeId} {x : Operand} {u : TypeId} {y : Value} (hStp : Stp P ops W) (hk : W rest (a.put o.dst ((.bool true))) w) (hop : o.op = .binOp .neq t x (.const .nilIface) t' := by rfl) (hx : evO a x = some (.iface u y) := by rfl) (hi : IfT P t := by infer_instance) (hw : Region.wanted o (yielded ops a.tmps) = true := by rfl) (hd : Bp o = false := by rfl) : W (o :: rest) a w := hStp.go hw hd (r_neqNil hop hx hi) hk
theorem De {t t' : TypeId} {x : Operand} {u : TypeId} {y : Value} (hop : o.op = .binOp .neq t x (.const .nilIface) t' := by rfl) (hx : evO a x = some (.iface u y) := by rfl) (hi : IfT P t := by infer_instance) : o.quietAt P a C w ((.bool true)) := Cn (r_neqNil hop hx hi)
theorem Bz {t t' : TypeId} {x : Operand} (hStp : Stp P ops W) (hk : W rest (a.put o.dst ((.bool false))) w) (hop : o.op = .binOp .neq t x (.const .nilIface) t' := by rfl) (hx : evO a x = some .nilIface := by rfl) (hi : IfT P t := by infer_instance) (hw : Region.wanted o (yielded ops a.tmps) = true := by rfl) (hd : Bp o = false := by rfl) : W (o :: rest) a w := hStp.go hw hd (r_neqNil0 hop hx hi) hk
theorem Cx {t t' : TypeId} {x : Operand} (hop : o.op = .binOp .neq t x (.const .nilIface) t' := by rfl) (hx : evO a x = some .nilIface := by rfl) (hi : IfT P t := by infer_instance) : o.quietAt P a C w ((.bool false)) := Cn (r_neqNil0 hop hx hi)
theorem Ck {t t' : TypeId} {x : Operand} {u : TypeId} {y : Value} (hStp : Stp P ops W) (hk : W rest (a.put o.dst ((.bool false))) w) (hop : o.op = .binOp .eql t x (.const .nilIface) t' := by rfl) (hx : evO a x = some (.iface u y) := by rfl) (hi : IfT P t := by infer_instance) (hw : Region.wanted o (yielded ops a.tmps) = true := by rfl) (hd : Bp o = false := by rfl) : W (o :: rest) a w := hStp.go hw hd (r_eqlNil hop hx hi) hk
theorem Df {t t' : TypeId} {x : Operand} {u : TypeId} {y : Value} (hop : o.op = .binOp .eql t x (.const .nilIface) t' := by rfl) (hx : evO a x = some (.iface u y) := by rfl) (hi : IfT P t := by infer_instance) : o.quietAt P a C w ((.bool false)) := Cn (r_eqlNil hop hx hi)
theorem Cd {t t' : TypeId} {x : Operand} (hStp : Stp P ops W) (hk : W rest (a.put o.dst ((.bool true))) w) (hop : o.op = .binOp .eql t x (.const .nilIface) t' := by rfl) (hx : evO a x = some .nilIface := by rfl) (hi : IfT P t := by infer_instance) (hw : Region.wanted o (yielded ops a.tmps) = true := by rfl) (hd : Bp o = false := by rfl) : W (o :: rest) a w := hStp.go hw hd (r_eqlNil0 hop hx hi) hk
theorem Cv {t t' : TypeId} {x : Operand} (hop : o.op = .binOp .eql t x (.const .nilIface) t' := by rfl) (hx : evO a x = some .nilIface := by rfl) (hi : IfT P t := by infer_instance) : o.quietAt P a C w ((.bool true)) := Cn (r_eqlNil0 hop hx hi)
theorem Az {s : TypeId} {x : Operand} {k b off fo n q : Nat} (hStp : Stp P ops W) (hk : W rest (a.put o.dst ((.pointer (some ⟨b, q, none⟩)))) w) (hop : o.op = .fieldAddr s x k := by rfl) (hx : evO a x = some (.pointer (some ⟨b, off, none⟩)) := by rfl) (hf : FldT P s k fo n := by infer_instance) (hq : off + fo = q := by (try conv => lhs; simp only [Int.toNat_natCast, Int.toNat_zero, Int.toNat_one, Int.reduceToNat, Int.toNat_natCast_add_one, Int.ofNat_eq_natCast, Nat.mul_one, Nat.one_mul, Nat.zero_add, Nat.add_zero, Nat.sub_zero, Nat.zero_mul, Nat.reduceAdd, Nat.reduceMul, Nat.reduceSub]); first | done | rfl) (hw : Region.wanted o (yielded ops a.tmps) = true := by rfl) (hd : Bp o = false := by rfl) : W (o :: rest) a w := hStp.go hw hd (r_fieldAddr hop hx hf hq) hk
theorem Ch {s : TypeId} {x : Operand} {k b off fo n q : Nat} (hop : o.op = .fieldAddr s x k := by rfl) (hx : evO a x = some (.pointer (some ⟨b, off, none⟩)) := by rfl) (hf : FldT P s k fo n := by infer_instance) (hq : off + fo = q := by (try conv => lhs; simp only [Int.toNat_natCast, Int.toNat_zero, Int.toNat_one, Int.reduceToNat, Int.toNat_natCast_add_one, Int.ofNat_eq_natCast, Nat.mul_one, Nat.one_mul, Nat.zero_add, Nat.add_zero, Nat.sub_zero, Nat.zero_mul, Nat.reduceAdd, Nat.reduceMul, Nat.reduceSub]); first | done | rfl) : o.quietAt P a C w ((.pointer (some ⟨b, q, none⟩))) := Cn (r_fieldAddr hop hx hf hq)
theorem g_field1 {s : TypeId} {x : Operand} {k fo n : Nat} {cs : Array Value} (hStp : Stp P ops W) (hk : W rest (a.put o.dst (v)) w) (hop : o.op = .field s x k := by rfl) (hx : evO a x = some (.agg cs) := by rfl) (hf : FldV P s k fo n true := by infer_instance) (hv' : cs.toList[fo]? = some v := by first | rfl | exact bvs_getL (by (try simp only [List.length_append, List.length_set, zs_len, List.length_take, List.length_drop, List.length_cons, List.length_nil, List.length_map]); omega)) (hw : Region.wanted o (yielded ops a.tmps) = true := by rfl) (hd : Bp o = false := by rfl) : W (o :: rest) a w := hStp.go hw hd (r_field1 hop hx hf hv') hk
theorem Di {s : TypeId} {x : Operand} {k fo n : Nat} {cs : Array Value} (hop : o.op = .field s x k := by rfl) (hx : evO a x = some (.agg cs) := by rfl) (hf : FldV P s k fo n true := by infer_instance) (hv' : cs.toList[fo]? = some v := by first | rfl | exact bvs_getL (by (try simp only [List.length_append, List.length_set, zs_len, List.length_take, List.length_drop, List.length_cons, List.length_nil, List.length_map]); omega)) : o.quietAt P a C w (v) := Cn (r_field1 hop hx hf hv')
theorem g_fieldR {s : TypeId} {x : Operand} {k fo n : Nat} {cs vs : Array Value} (hStp : Stp P ops W) (hk : W rest (a.put o.dst ((.agg vs))) w) (hop : o.op = .field s x k := by rfl) (hx : evO a x = some (.agg cs) := by rfl) (hf : FldV P s k fo n false := by infer_instance) (hv : cs.extract fo (fo + n) = vs := by rfl) (hw : Region.wanted o (yielded ops a.tmps) = true := by rfl) (hd : Bp o = false := by rfl) : W (o :: rest) a w := hStp.go hw hd (r_fieldR hop hx hf hv) hk
theorem Dg {s : TypeId} {x : Operand} {k fo n : Nat} {cs vs : Array Value} (hop : o.op = .field s x k := by rfl) (hx : evO a x = some (.agg cs) := by rfl) (hf : FldV P s k fo n false := by infer_instance) (hv : cs.extract fo (fo + n) = vs := by rfl) : o.quietAt P a C w ((.agg vs)) := Cn (r_fieldR hop hx hf hv)
theorem Bx {t t' e size bytes : Nat} {x : Operand} {p : Option Addr} {n c : Nat} (hStp : Stp P ops W) (hk : W rest (a.put o.dst ((.bool p.isNone))) w) (hop : o.op = .binOp .eql t x (.const (.slice none 0 0)) t' := by rfl) (hx : evO a x = some (.slice p n c) := by rfl) (hT : SlT P t e size bytes := by infer_instance) (hw : Region.wanted o (yielded ops a.tmps) = true := by rfl) (hd : Bp o = false := by rfl) : W (o :: rest) a w := hStp.go hw hd (r_eqlSlNil hop hx hT) hk
theorem Cm {t t' e size bytes : Nat} {x : Operand} {p : Option Addr} {n c : Nat} (hop : o.op = .binOp .eql t x (.const (.slice none 0 0)) t' := by rfl) (hx : evO a x = some (.slice p n c) := by rfl) (hT : SlT P t e size bytes := by infer_instance) : o.quietAt P a C w ((.bool p.isNone)) := Cn (r_eqlSlNil hop hx hT)
theorem Bu {t t' e size bytes : Nat} {x : Operand} {p : Option Addr} {n c : Nat} (hStp : Stp P ops W) (hk : W rest (a.put o.dst ((.bool (!p.isNone)))) w) (hop : o.op = .binOp .neq t x (.const (.slice none 0 0)) t' := by rfl) (hx : evO a x = some (.slice p n c) := by rfl) (hT : SlT P t e size bytes := by infer_instance) (hw : Region.wanted o (yielded ops a.tmps) = true := by rfl) (hd : Bp o = false := by rfl) : W (o :: rest) a w := hStp.go hw hd (r_neqSlNil hop hx hT) hk
theorem Co {t t' e size bytes : Nat} {x : Operand} {p : Option Addr} {n c : Nat} (hop : o.op = .binOp .neq t x (.const (.slice none 0 0)) t' := by rfl) (hx : evO a x = some (.slice p n c) := by rfl) (hT : SlT P t e size bytes := by infer_instance) : o.quietAt P a C w ((.bool (!p.isNone))) := Cn (r_neqSlNil hop hx hT)
theorem Ax {t : TypeId} {x : Operand} (hStp : Stp P ops W) (hk : W rest (a.put o.dst ((.iface t v))) w) (hop : o.op = .makeInterface t x := by rfl) (hx : evO a x = some v := by rfl) (hi : IfaceT P t := by infer_instance) (hw : Region.wanted o (yielded ops a.tmps) = true := by rfl) (hd : Bp o = false := by rfl) : W (o :: rest) a w := hStp.go hw hd (r_makeInterface hop hx hi) hk
theorem Bt {t : TypeId} {x : Operand} (hop : o.op = .makeInterface t x := by rfl) (hx : evO a x = some v := by rfl) (hi : IfaceT P t := by infer_instance) : o.quietAt P a C w ((.iface t v)) := Cn (r_makeInterface hop hx hi)
theorem Dj {fn : Fn} {first caps : Array Operand} {fs cs : List Value} (hStp : Stp P ops W) (hk : W rest (a.put o.dst ((.func fn fs.toArray cs.toArray))) w) (hop : o.op = .makeFunc fn first caps := by rfl) (hf : evs a first.toList = some fs := by rfl) (hc : evs a caps.toList = some cs := by rfl) (hw : Region.wanted o (yielded ops a.tmps) = true := by rfl) (hd : Bp o = false := by rfl) : W (o :: rest) a w := hStp.go hw hd (r_makeFunc hop hf hc) hk
theorem Cl {fn : Fn} {first caps : Array Operand} {fs cs : List Value} (hop : o.op = .makeFunc fn first caps := by rfl) (hf : evs a first.toList = some fs := by rfl) (hc : evs a caps.toList = some cs := by rfl) : o.quietAt P a C w ((.func fn fs.toArray cs.toArray)) := Cn (r_makeFunc hop hf hc)
theorem Bq {s t : TypeId} {x : Operand} {k k' ks : IntKind} {n q : Int} (hStp : Stp P ops W) (hk : W rest (a.put o.dst ((.int k' q))) w) (hop : o.op = .convert s t x := by rfl) (hx : evO a x = some (.int k n) := by rfl) (hs : IntT P s ks := by infer_instance) (ht : IntT P t k' := by infer_instance) (hf : fits k' n := by first | exact fits_i64 (by omega) | exact fits_u8 (by omega) | exact fits_u64 (by omega)) (hq : n = q := by (try conv => lhs; simp only [Int.cast_ofNat_Int, Int.add_sub_cancel, Int.sub_add_cancel, Int.zero_add, Int.add_zero, Int.sub_zero, Int.reduceAdd, Int.reduceSub, Int.reduceMul, Int.reduceDiv, Int.reduceMod, Int.natCast_zero]); first | done | rfl) (hw : Region.wanted o (yielded ops a.tmps) = true := by rfl) (hd : Bp o = false := by rfl) : W (o :: rest) a w := hStp.go hw hd (r_conv hop hx hs ht hf hq) hk
theorem q_conv {s t : TypeId} {x : Operand} {k k' ks : IntKind} {n q : Int} (hop : o.op = .convert s t x := by rfl) (hx : evO a x = some (.int k n) := by rfl) (hs : IntT P s ks := by infer_instance) (ht : IntT P t k' := by infer_instance) (hf : fits k' n := by first | exact fits_i64 (by omega) | exact fits_u8 (by omega) | exact fits_u64 (by omega)) (hq : n = q := by (try conv => lhs; simp only [Int.cast_ofNat_Int, Int.add_sub_cancel, Int.sub_add_cancel, Int.zero_add, Int.add_zero, Int.sub_zero, Int.reduceAdd, Int.reduceSub, Int.reduceMul, Int.reduceDiv, Int.reduceMod, Int.natCast_zero]); first | done | rfl) : o.quietAt P a C w ((.int k' q)) := Cn (r_conv hop hx hs ht hf hq)
theorem Bk {c x y : Operand} {b : Bool} (hStp : Stp P ops W) (hk : W rest (a.put o.dst (v)) w) (hop : o.op = .pick c x y := by rfl) (hc : evO a c = some (.bool b) := by rfl) (hv : (if b then evO a x else evO a y) = some v := by rfl) (hw : Region.wanted o (yielded ops a.tmps) = true := by rfl) (hd : Bp o = false := by rfl) : W (o :: rest) a w := hStp.go hw hd (r_pick hop hc hv) hk
theorem q_pick {c x y : Operand} {b : Bool} (hop : o.op = .pick c x y := by rfl) (hc : evO a c = some (.bool b) := by rfl) (hv : (if b then evO a x else evO a y) = some v := by rfl) : o.quietAt P a C w (v) := Cn (r_pick hop hc hv)
theorem Bw {t : TypeId} {x : Operand} {b c : Bool} (hStp : Stp P ops W) (hk : W rest (a.put o.dst ((.bool c))) w) (hop : o.op = .unOp .not t x := by rfl) (hx : evO a x = some (.bool b) := by rfl) (hc : (!b) = c := by rfl) (hw : Region.wanted o (yielded ops a.tmps) = true := by rfl) (hd : Bp o = false := by rfl) : W (o :: rest) a w := hStp.go hw hd (r_not hop hx hc) hk
theorem q_not {t : TypeId} {x : Operand} {b c : Bool} (hop : o.op = .unOp .not t x := by rfl) (hx : evO a x = some (.bool b) := by rfl) (hc : (!b) = c := by rfl) : o.quietAt P a C w ((.bool c)) := Cn (r_not hop hx hc)
theorem Bh {t : TypeId} {x : Operand} {lo hi : Option Operand} {b off n c m q n' c' : Nat} {l h : Int} (hStp : Stp P ops W) (hk : W rest (a.put o.dst ((.slice (some ⟨b, q, none⟩) n' c'))) w) (hop : o.op = .slice t x lo hi none := by rfl) (hx : evO a x = some (.slice (some ⟨b, off, none⟩) n c) := by rfl) (hm : ElT P t m := by infer_instance) (hl : bnd a 0 lo = some l := by rfl) (hh : bnd a n hi = some h := by rfl) (h0 : 0 ≤ l ∧ l ≤ h ∧ h ≤ (c : Int) ∧ (l < (c : Int) ∨ l = 0) := by omega) (hq : off + l.toNat * m = q := by (try conv => lhs; simp only [Int.toNat_natCast, Int.toNat_zero, Int.toNat_one, Int.reduceToNat, Int.toNat_natCast_add_one, Int.ofNat_eq_natCast, Nat.mul_one, Nat.one_mul, Nat.zero_add, Nat.add_zero, Nat.sub_zero, Nat.zero_mul, Nat.reduceAdd, Nat.reduceMul, Nat.reduceSub]); first | done | rfl) (hn : h.toNat - l.toNat = n' := by (try conv => lhs; simp only [Int.toNat_natCast, Int.toNat_zero, Int.toNat_one, Int.reduceToNat, Int.toNat_natCast_add_one, Int.ofNat_eq_natCast, Nat.mul_one, Nat.one_mul, Nat.zero_add, Nat.add_zero, Nat.sub_zero, Nat.zero_mul, Nat.reduceAdd, Nat.reduceMul, Nat.reduceSub]); first | done | rfl) (hc : c - l.toNat = c' := by (try conv => lhs; simp only [Int.toNat_natCast, Int.toNat_zero, Int.toNat_one, Int.reduceToNat, Int.toNat_natCast_add_one, Int.ofNat_eq_natCast, Nat.mul_one, Nat.one_mul, Nat.zero_add, Nat.add_zero, Nat.sub_zero, Nat.zero_mul, Nat.reduceAdd, Nat.reduceMul, Nat.reduceSub]); first | done | rfl) (hw : Region.wanted o (yielded ops a.tmps) = true := by rfl) (hd : Bp o = false := by rfl) : W (o :: rest) a w := hStp.go hw hd (r_slice hop hx hm hl hh h0 hq hn hc) hk
theorem Db {t : TypeId} {x : Operand} {lo hi : Option Operand} {b off n c m q n' c' : Nat} {l h : Int} (hop : o.op = .slice t x lo hi none := by rfl) (hx : evO a x = some (.slice (some ⟨b, off, none⟩) n c) := by rfl) (hm : ElT P t m := by infer_instance) (hl : bnd a 0 lo = some l := by rfl) (hh : bnd a n hi = some h := by rfl) (h0 : 0 ≤ l ∧ l ≤ h ∧ h ≤ (c : Int) ∧ (l < (c : Int) ∨ l = 0) := by omega) (hq : off + l.toNat * m = q := by (try conv => lhs; simp only [Int.toNat_natCast, Int.toNat_zero, Int.toNat_one, Int.reduceToNat, Int.toNat_natCast_add_one, Int.ofNat_eq_natCast, Nat.mul_one, Nat.one_mul, Nat.zero_add, Nat.add_zero, Nat.sub_zero, Nat.zero_mul, Nat.reduceAdd, Nat.reduceMul, Nat.reduceSub]); first | done | rfl) (hn : h.toNat - l.toNat = n' := by (try conv => lhs; simp only [Int.toNat_natCast, Int.toNat_zero, Int.toNat_one, Int.reduceToNat, Int.toNat_natCast_add_one, Int.ofNat_eq_natCast, Nat.mul_one, Nat.one_mul, Nat.zero_add, Nat.add_zero, Nat.sub_zero, Nat.zero_mul, Nat.reduceAdd, Nat.reduceMul, Nat.reduceSub]); first | done | rfl) (hc : c - l.toNat = c' := by (try conv => lhs; simp only [Int.toNat_natCast, Int.toNat_zero, Int.toNat_one, Int.reduceToNat, Int.toNat_natCast_add_one, Int.ofNat_eq_natCast, Nat.mul_one, Nat.one_mul, Nat.zero_add, Nat.add_zero, Nat.sub_zero, Nat.zero_mul, Nat.reduceAdd, Nat.reduceMul, Nat.reduceSub]); first | done | rfl) : o.quietAt P a C w ((.slice (some ⟨b, q, none⟩) n' c')) := Cn (r_slice hop hx hm hl hh h0 hq hn hc)
theorem Bc {t : TypeId} {x : Operand} {lo hi : Option Operand} {b off n m q n' c' : Nat} {l h : Int} (hStp : Stp P ops W) (hk : W rest (a.put o.dst ((.slice (some ⟨b, q, none⟩) n' c'))) w) (hop : o.op = .slice t x lo hi none := by rfl) (hx : evO a x = some (.pointer (some ⟨b, off, none⟩)) := by rfl) (hm : ArT P t n m := by infer_instance) (hl : bnd a 0 lo = some l := by rfl) (hh : bnd a n hi = some h := by rfl) (h0 : 0 ≤ l ∧ l ≤ h ∧ h ≤ (n : Int) ∧ l < (n : Int) := by omega) (hq : off + l.toNat * m = q := by (try conv => lhs; simp only [Int.toNat_natCast, Int.toNat_zero, Int.toNat_one, Int.reduceToNat, Int.toNat_natCast_add_one, Int.ofNat_eq_natCast, Nat.mul_one, Nat.one_mul, Nat.zero_add, Nat.add_zero, Nat.sub_zero, Nat.zero_mul, Nat.reduceAdd, Nat.reduceMul, Nat.reduceSub]); first | done | rfl) (hn : h.toNat - l.toNat = n' := by (try conv => lhs; simp only [Int.toNat_natCast, Int.toNat_zero, Int.toNat_one, Int.reduceToNat, Int.toNat_natCast_add_one, Int.ofNat_eq_natCast, Nat.mul_one, Nat.one_mul, Nat.zero_add, Nat.add_zero, Nat.sub_zero, Nat.zero_mul, Nat.reduceAdd, Nat.reduceMul, Nat.reduceSub]); first | done | rfl) (hc : n - l.toNat = c' := by (try conv => lhs; simp only [Int.toNat_natCast, Int.toNat_zero, Int.toNat_one, Int.reduceToNat, Int.toNat_natCast_add_one, Int.ofNat_eq_natCast, Nat.mul_one, Nat.one_mul, Nat.zero_add, Nat.add_zero, Nat.sub_zero, Nat.zero_mul, Nat.reduceAdd, Nat.reduceMul, Nat.reduceSub]); first | done | rfl) (hw : Region.wanted o (yielded ops a.tmps) = true := by rfl) (hd : Bp o = false := by rfl) : W (o :: rest) a w := hStp.go hw hd (r_sliceA hop hx hm hl hh h0 hq hn hc) hk
theorem Ct {t : TypeId} {x : Operand} {lo hi : Option Operand} {b off n m q n' c' : Nat} {l h : Int} (hop : o.op = .slice t x lo hi none := by rfl) (hx : evO a x = some (.pointer (some ⟨b, off, none⟩)) := by rfl) (hm : ArT P t n m := by infer_instance) (hl : bnd a 0 lo = some l := by rfl) (hh : bnd a n hi = some h := by rfl) (h0 : 0 ≤ l ∧ l ≤ h ∧ h ≤ (n : Int) ∧ l < (n : Int) := by omega) (hq : off + l.toNat * m = q := by (try conv => lhs; simp only [Int.toNat_natCast, Int.toNat_zero, Int.toNat_one, Int.reduceToNat, Int.toNat_natCast_add_one, Int.ofNat_eq_natCast, Nat.mul_one, Nat.one_mul, Nat.zero_add, Nat.add_zero, Nat.sub_zero, Nat.zero_mul, Nat.reduceAdd, Nat.reduceMul, Nat.reduceSub]); first | done | rfl) (hn : h.toNat - l.toNat = n' := by (try conv => lhs; simp only [Int.toNat_natCast, Int.toNat_zero, Int.toNat_one, Int.reduceToNat, Int.toNat_natCast_add_one, Int.ofNat_eq_natCast, Nat.mul_one, Nat.one_mul, Nat.zero_add, Nat.add_zero, Nat.sub_zero, Nat.zero_mul, Nat.reduceAdd, Nat.reduceMul, Nat.reduceSub]); first | done | rfl) (hc : n - l.toNat = c' := by (try conv => lhs; simp only [Int.toNat_natCast, Int.toNat_zero, Int.toNat_one, Int.reduceToNat, Int.toNat_natCast_add_one, Int.ofNat_eq_natCast, Nat.mul_one, Nat.one_mul, Nat.zero_add, Nat.add_zero, Nat.sub_zero, Nat.zero_mul, Nat.reduceAdd, Nat.reduceMul, Nat.reduceSub]); first | done | rfl) : o.quietAt P a C w ((.slice (some ⟨b, q, none⟩) n' c')) := Cn (r_sliceA hop hx hm hl hh h0 hq hn hc)
theorem Au {t : TypeId} {x : Operand} {lo hi : Option Operand} {m : Nat} (hStp : Stp P ops W) (hk : W rest (a.put o.dst ((.slice none 0 0))) w) (hop : o.op = .slice t x lo hi none := by rfl) (hx : evO a x = some (.slice none 0 0) := by rfl) (hm : ElT P t m := by infer_instance) (hl : bnd a 0 lo = some 0 := by rfl) (hh : bnd a 0 hi = some 0 := by rfl) (hw : Region.wanted o (yielded ops a.tmps) = true := by rfl) (hd : Bp o = false := by rfl) : W (o :: rest) a w := hStp.go hw hd (r_sliceNil hop hx hm hl hh) hk
theorem Cc {t : TypeId} {x : Operand} {lo hi : Option Operand} {m : Nat} (hop : o.op = .slice t x lo hi none := by rfl) (hx : evO a x = some (.slice none 0 0) := by rfl) (hm : ElT P t m := by infer_instance) (hl : bnd a 0 lo = some 0 := by rfl) (hh : bnd a 0 hi = some 0 := by rfl) : o.quietAt P a C w ((.slice none 0 0)) := Cn (r_sliceNil hop hx hm hl hh)
theorem Ai (hStp : Stp P ops W) (hk : W rest (a.put o.dst undef) w) (hw : Region.wanted o (yielded ops a.tmps) = false := by rfl) : W (o :: rest) a w := hStp.skip hw hk
theorem Aw {p : BinOp} {t t' : TypeId} {x y : Operand} {k : IntKind} {m n : Int} {A : Prop} (hStp : Stp P ops W) (ht : A → W rest (a.put o.dst (.bool true)) w) (hf : ¬ A → W rest (a.put o.dst (.bool false)) w) (hop : o.op = .binOp p t x y t' := by rfl) (hx : evO a x = some (.int k m) := by rfl) (hy : evO a y = some (.int k n) := by rfl) (hp : cmpP p m n = some A := by rfl) (hw : Region.wanted o (yielded ops a.tmps) = true := by rfl) : W (o :: rest) a w := s_cmp hStp hw hop hx hy hp ht hf
theorem Ay {t : TypeId} {cs : Array Value} (hStp : Stp P ops W) (hH : Own B H) (hS : H w L) (hk : ∀ (b : Nat) (w' : World), H w' ((b, cs, t) :: L) → W rest (a.put o.dst (.pointer (some ⟨b, 0, none⟩))) w') (hop : o.op = .alloc t := by rfl) (hz : ZeroT P t cs := by infer_instance) (hw : Region.wanted o (yielded ops a.tmps) = true := by rfl) (hd : Bp o = false := by rfl) : W (o :: rest) a w := s_newP hStp hH hS hw hd (r_alloc hop hz) hk
theorem Cu {t : TypeId} {x : Operand} {cs : Array Value} (hStp : Stp P ops W) (hH : Own B H) (hS : H w L) (hk : ∀ (b : Nat) (w' : World), H w' ((b, cs, t) :: L) → W rest (a.put o.dst (.pointer (some ⟨b, 0, none⟩))) w') (hop : o.op = .box t x := by rfl) (hx : evO a x = some v := by rfl) (hc : v.cells = cs := by (try conv => lhs; simp only [Value.cells]); first | done | rfl) (hw : Region.wanted o (yielded ops a.tmps) = true := by rfl) (hd : Bp o = false := by rfl) : W (o :: rest) a w := s_newP hStp hH hS hw hd (r_box hop hx hc) hk
theorem Ao {t e size bytes : Nat} (hStp : Stp P ops W) (hH : Own B H) (hS : H w L) (hk : ∀ (b : Nat) (w' : World), H w' ((b, #[], e) :: L) → W rest (a.put o.dst (.slice (some ⟨b, 0, none⟩) 0 0)) w') (hop : o.op = .buildSlice t 0 #[] := by rfl) (hT : SlT P t e size bytes := by infer_instance) (hw : Region.wanted o (yielded ops a.tmps) = true := by rfl) (hd : Bp o = false := by rfl) : W (o :: rest) a w := s_newS hStp hH hS hw hd (r_buildSlice0 hop hT) rfl rfl rfl hk
theorem As {t e size bytes len : Nat} {parts : Array (Nat × Operand)} {vs : List Value} {cells : List Value} (hStp : Stp P ops W) (hH : Own B H) (hS : H w L) (hk : ∀ (b : Nat) (w' : World), H w' ((b, cells.toArray, e) :: L) → W rest (a.put o.dst (.slice (some ⟨b, 0, none⟩) len len)) w') (hop : o.op = .buildSlice t len parts := by rfl) (hp : evi a 0 parts.toList = some vs := by rfl) (hT : SlT P t e size bytes := by infer_instance) (hl : parts.toList.length = len := by rfl) (h1 : ∀ v ∈ vs, v.cells.size = size := by repeat (first | exact (fun _ h => absurd h List.not_mem_nil) | refine List.forall_mem_cons.2 ⟨by first | rfl | (simp only [Value.cells]; first | rfl | omega), ?_⟩)) (hc : (vs.flatMap fun v => v.cells.toList) = cells := by (try conv => lhs; simp only [List.flatMap_cons, List.flatMap_nil, Value.cells, List.append_nil, List.cons_append, List.nil_append]); first | done | rfl) (hlen : len * size ≤ 2 ^ 24 := by decide) (hpos : 0 < len := by decide) (hw : Region.wanted o (yielded ops a.tmps) = true := by rfl) (hd : Bp o = false := by rfl) : W (o :: rest) a w := s_newS hStp hH hS hw hd (Cf hop hp hT hl h1 hc hlen hpos) rfl rfl rfl hk
theorem g_make {t e : Nat} {x y : Operand} {k k' : IntKind} {n c : Int} {n' c' : Nat} (hStp : Stp P ops W) (hH : Own B H) (hS : H w L) (hk : ∀ (b : Nat) (w' : World), H w' ((b, bvs (zs c'), e) :: L) → W rest (a.put o.dst (.slice (some ⟨b, 0, none⟩) n' c')) w') (hop : o.op = .makeSlice t x y := by rfl) (hx : evO a x = some (.int k n) := by rfl) (hy : evO a y = some (.int k' c) := by rfl) (hT : SlT P t e 1 1 := by infer_instance) (hz : ZeroT P e #[.int .u8 0] := by infer_instance) (h : 0 ≤ n ∧ n ≤ c ∧ c ≤ 140737488355328 := by omega) (hn : n.toNat = n' := by (try conv => lhs; simp only [Int.toNat_natCast, Int.toNat_zero, Int.toNat_one, Int.reduceToNat, Int.toNat_natCast_add_one, Int.ofNat_eq_natCast, Nat.mul_one, Nat.one_mul, Nat.zero_add, Nat.add_zero, Nat.sub_zero, Nat.zero_mul, Nat.reduceAdd, Nat.reduceMul, Nat.reduceSub]); first | done | rfl) (hc : c.toNat = c' := by (try conv => lhs; simp only [Int.toNat_natCast, Int.toNat_zero, Int.toNat_one, Int.reduceToNat, Int.toNat_natCast_add_one, Int.ofNat_eq_natCast, Nat.mul_one, Nat.one_mul, Nat.zero_add, Nat.add_zero, Nat.sub_zero, Nat.zero_mul, Nat.reduceAdd, Nat.reduceMul, Nat.reduceSub]); first | done | rfl) (hw : Region.wanted o (yielded ops a.tmps) = true := by rfl) (hd : Bp o = false := by rfl) : W (o :: rest) a w := s_newS hStp hH hS hw hd (r_makeBytes hop hx hy hT hz h) hn hc (by rw [hc]) hk
theorem Br {t : TypeId} {x y : Operand} {b off : Nat} {cs : Array Value} {ty : TypeId} {L' : List Blk} {i : Nat} (hStp : Stp P ops W) (hH : Own B H) (hS : H w L) (hk : ∀ w', H w' L' → W rest (a.put o.dst undef) w') (hop : o.op = .store t x y := by rfl) (hx : evO a x = some (.pointer (some ⟨b, off, none⟩)) := by rfl) (hy : evO a y = some v := by rfl) (h1 : OneT P t := by infer_instance) (hv : v.oneCell' = true := by rfl) (hi : L[i]? = some (b, cs, ty) := by first | exact at_ 0 rfl | exact at_ 1 rfl | exact at_ 2 rfl | exact at_ 3 rfl | exact at_ 4 rfl | exact at_ 5 rfl | exact at_ 6 rfl | exact at_ 7 rfl | exact at_ 8 rfl | exact at_ 9 rfl | exact at_ 10 rfl | exact at_ 11 rfl | exact at_ 12 rfl | exact at_ 13 rfl) (ho : off < csz cs := by (try simp only [Bn, Bg, Bm, List.length_append, List.length_set, zs_len, List.length_take, List.length_drop, List.length_cons, List.length_nil, List.length_map]); first | done | rfl | omega) (hL : L.set i (b, cs.setIfInBounds off v, ty) = L' := by (try conv => lhs; simp only [List.setIfInBounds_toArray, List.set_cons_zero, List.set_cons_succ, List.eraseIdx_cons_zero, List.eraseIdx_cons_succ]); first | done | rfl) (hw : Region.wanted o (yielded ops a.tmps) = true := by rfl) : W (o :: rest) a w := s_store1 hStp hH hS hw hop hx hy h1 hv hi ho hL hk
theorem Ap {t : TypeId} {x y : Operand} {n b off : Nat} {cs vs cs' : Array Value} {ty : TypeId} {L' : List Blk} {i : Nat} (hStp : Stp P ops W) (hH : Own B H) (hS : H w L) (hk : ∀ w', H w' L' → W rest (a.put o.dst undef) w') (hop : o.op = .store t x y := by rfl) (hx : evO a x = some (.pointer (some ⟨b, off, none⟩)) := by rfl) (hy : evO a y = some (.agg vs) := by rfl) (h1 : RowT P t n := by infer_instance) (hn : csz vs = n := by (try simp only [Bn, Bg, Bm, List.length_append, List.length_set, zs_len, List.length_take, List.length_drop, List.length_cons, List.length_nil, List.length_map]); first | done | rfl | omega) (hv : ones vs = true := by first | exact ones_bvs _ | rfl) (hi : L[i]? = some (b, cs, ty) := by first | exact at_ 0 rfl | exact at_ 1 rfl | exact at_ 2 rfl | exact at_ 3 rfl | exact at_ 4 rfl | exact at_ 5 rfl | exact at_ 6 rfl | exact at_ 7 rfl | exact at_ 8 rfl | exact at_ 9 rfl | exact at_ 10 rfl | exact at_ 11 rfl | exact at_ 12 rfl | exact at_ 13 rfl) (ho : off + n ≤ csz cs := by (try simp only [Bn, Bg, Bm, List.length_append, List.length_set, zs_len, List.length_take, List.length_drop, List.length_cons, List.length_nil, List.length_map]); first | done | rfl | omega) (hc : paste cs off vs = cs' := by first | exact paste_whole _ _ (by (try simp only [Bn, Bg, Bm, List.length_append, List.length_set, zs_len, List.length_take, List.length_drop, List.length_cons, List.length_nil, List.length_map]); first | done | rfl | omega) | rfl) (hL : L.set i (b, cs', ty) = L' := by (try conv => lhs; simp only [List.setIfInBounds_toArray, List.set_cons_zero, List.set_cons_succ, List.eraseIdx_cons_zero, List.eraseIdx_cons_succ]); first | done | rfl) (hw : Region.wanted o (yielded ops a.tmps) = true := by rfl) : W (o :: rest) a w := s_storeR hStp hH hS hw hop hx hy h1 hn hv hi ho hc hL hk
theorem g_qcall {x : Operand} {xs : Array Operand} {ts : Array TypeId} {f : FuncId} {first caps : Array Value} {vs : List Value} {args : Array Value} {v : Value} (hc : Calls P f args w fun e w' => e = .returned v ∧ C w') (hop : o.op = .call { callee := .value x, args := xs, argTypes := ts } := by rfl) (hx : evO a x = some (.func (.func f) first caps) := by rfl) (hxs : evs a xs.toList = some vs := by rfl) (hA : (first.toList ++ vs ++ caps.toList).toArray = args := by rfl) (hf : GoF P f := by infer_instance) : o.quietAt P a C w v := q_call hop hx hxs hA hf hc
theorem Ad {d : Option Nat} {a2 : Act} (h : W rest a2 w) (hput : a.put d v = a2 := by (conv => lhs; simp only [Act.put, List.setIfInBounds_toArray, List.set_cons_zero, List.set_cons_succ]); first | done | rfl) : W rest (a.put d v) w := by rw [hput]; exact h
theorem Bi {l : List UInt8} {k : Nat} (h : k < l.length := by (try simp only [List.length_append, List.length_set, zs_len, List.length_take, List.length_drop, List.length_cons, List.length_nil, List.length_map]); omega) : (bvs l).toList[k]? = some (.int .u8 ((l.getD k 0).toNat : Int)) := bvs_getL h
end
end Go.Proofs.Ytcjncidahjneaaa

namespace Go.Proofs.Ytcjncidahjneaaa
open Go.RowKit
set_option maxRecDepth 100000

instance : OneT Try.prog 0 := ⟨by kernel_rfl, by kernel_rfl⟩
instance : OneT Try.prog 1 := ⟨by kernel_rfl, by kernel_rfl⟩
instance : ZeroT Try.prog 1 #[.nilFunc] := ⟨by kernel_rfl⟩
instance : IfaceT Try.prog 1 := ⟨by kernel_rfl⟩
instance : OneT Try.prog 2 := ⟨by kernel_rfl, by kernel_rfl⟩
instance : ZeroT Try.prog 2 #[.int .i64 0] := ⟨by kernel_rfl⟩
instance : IntT Try.prog 2 .i64 := ⟨by kernel_rfl⟩
instance : IfaceT Try.prog 2 := ⟨by kernel_rfl⟩
instance : OneT Try.prog 3 := ⟨by kernel_rfl, by kernel_rfl⟩
instance : ZeroT Try.prog 3 #[.int .i64 0] := ⟨by kernel_rfl⟩
instance : IntT Try.prog 3 .i64 := ⟨by kernel_rfl⟩
instance : IfaceT Try.prog 3 := ⟨by kernel_rfl⟩
instance : OneT Try.prog 4 := ⟨by kernel_rfl, by kernel_rfl⟩
instance : ZeroT Try.prog 4 #[.bool false] := ⟨by kernel_rfl⟩
instance : IfaceT Try.prog 4 := ⟨by kernel_rfl⟩
instance : OneT Try.prog 5 := ⟨by kernel_rfl, by kernel_rfl⟩
instance : ZeroT Try.prog 5 #[.int .u8 0] := ⟨by kernel_rfl⟩
instance : IntT Try.prog 5 .u8 := ⟨by kernel_rfl⟩
instance : IfaceT Try.prog 5 := ⟨by kernel_rfl⟩
instance : OneT Try.prog 6 := ⟨by kernel_rfl, by kernel_rfl⟩
instance : ZeroT Try.prog 6 #[.int .u8 0] := ⟨by kernel_rfl⟩
instance : IntT Try.prog 6 .u8 := ⟨by kernel_rfl⟩
instance : IfaceT Try.prog 6 := ⟨by kernel_rfl⟩
instance : RowT Try.prog 7 4 := ⟨by kernel_rfl, by kernel_rfl⟩
instance : IfaceT Try.prog 7 := ⟨by kernel_rfl⟩
instance : FldT Try.prog 7 0 0 1 := ⟨2, by kernel_rfl⟩
instance : FldV Try.prog 7 0 0 1 true := ⟨2, by kernel_rfl, by rw [if_pos rfl]; exact ⟨by kernel_rfl, rfl⟩⟩
instance : FldT Try.prog 7 1 1 1 := ⟨3, by kernel_rfl⟩
instance : FldV Try.prog 7 1 1 1 true := ⟨3, by kernel_rfl, by rw [if_pos rfl]; exact ⟨by kernel_rfl, rfl⟩⟩
instance : FldT Try.prog 7 2 2 1 := ⟨4, by kernel_rfl⟩
instance : FldV Try.prog 7 2 2 1 true := ⟨4, by kernel_rfl, by rw [if_pos rfl]; exact ⟨by kernel_rfl, rfl⟩⟩
instance : FldT Try.prog 7 3 3 1 := ⟨6, by kernel_rfl⟩
instance : FldV Try.prog 7 3 3 1 true := ⟨6, by kernel_rfl, by rw [if_pos rfl]; exact ⟨by kernel_rfl, rfl⟩⟩
instance : RowT Try.prog 8 4 := ⟨by kernel_rfl, by kernel_rfl⟩
instance : IfaceT Try.prog 8 := ⟨by kernel_rfl⟩
instance : FldT Try.prog 8 0 0 1 := ⟨2, by kernel_rfl⟩
instance : FldV Try.prog 8 0 0 1 true := ⟨2, by kernel_rfl, by rw [if_pos rfl]; exact ⟨by kernel_rfl, rfl⟩⟩
instance : FldT Try.prog 8 1 1 1 := ⟨3, by kernel_rfl⟩
instance : FldV Try.prog 8 1 1 1 true := ⟨3, by kernel_rfl, by rw [if_pos rfl]; exact ⟨by kernel_rfl, rfl⟩⟩
instance : FldT Try.prog 8 2 2 1 := ⟨4, by kernel_rfl⟩
instance : FldV Try.prog 8 2 2 1 true := ⟨4, by kernel_rfl, by rw [if_pos rfl]; exact ⟨by kernel_rfl, rfl⟩⟩
instance : FldT Try.prog 8 3 3 1 := ⟨6, by kernel_rfl⟩
instance : FldV Try.prog 8 3 3 1 true := ⟨6, by kernel_rfl, by rw [if_pos rfl]; exact ⟨by kernel_rfl, rfl⟩⟩
instance : OneT Try.prog 9 := ⟨by kernel_rfl, by kernel_rfl⟩
instance : ZeroT Try.prog 9 #[.string ⟨#[]⟩] := ⟨by kernel_rfl⟩
instance : IfaceT Try.prog 9 := ⟨by kernel_rfl⟩
instance : OneT Try.prog 10 := ⟨by kernel_rfl, by kernel_rfl⟩
instance : ZeroT Try.prog 10 #[.string ⟨#[]⟩] := ⟨by kernel_rfl⟩
instance : IfaceT Try.prog 10 := ⟨by kernel_rfl⟩
instance : OneT Try.prog 11 := ⟨by kernel_rfl, by kernel_rfl⟩
instance : ZeroT Try.prog 11 #[.string ⟨#[]⟩] := ⟨by kernel_rfl⟩
instance : IfaceT Try.prog 11 := ⟨by kernel_rfl⟩
instance : OneT Try.prog 12 := ⟨by kernel_rfl, by kernel_rfl⟩
instance : ZeroT Try.prog 12 #[.int .u64 0] := ⟨by kernel_rfl⟩
instance : IntT Try.prog 12 .u64 := ⟨by kernel_rfl⟩
instance : IfaceT Try.prog 12 := ⟨by kernel_rfl⟩
instance : RowT Try.prog 13 2 := ⟨by kernel_rfl, by kernel_rfl⟩
instance : IfaceT Try.prog 13 := ⟨by kernel_rfl⟩
instance : FldT Try.prog 13 0 0 1 := ⟨9, by kernel_rfl⟩
instance : FldV Try.prog 13 0 0 1 true := ⟨9, by kernel_rfl, by rw [if_pos rfl]; exact ⟨by kernel_rfl, rfl⟩⟩
instance : FldT Try.prog 13 1 1 1 := ⟨12, by kernel_rfl⟩
instance : FldV Try.prog 13 1 1 1 true := ⟨12, by kernel_rfl, by rw [if_pos rfl]; exact ⟨by kernel_rfl, rfl⟩⟩
instance : RowT Try.prog 14 2 := ⟨by kernel_rfl, by kernel_rfl⟩
instance : IfaceT Try.prog 14 := ⟨by kernel_rfl⟩
instance : FldT Try.prog 14 0 0 1 := ⟨9, by kernel_rfl⟩
instance : FldV Try.prog 14 0 0 1 true := ⟨9, by kernel_rfl, by rw [if_pos rfl]; exact ⟨by kernel_rfl, rfl⟩⟩
instance : FldT Try.prog 14 1 1 1 := ⟨12, by kernel_rfl⟩
instance : FldV Try.prog 14 1 1 1 true := ⟨12, by kernel_rfl, by rw [if_pos rfl]; exact ⟨by kernel_rfl, rfl⟩⟩
instance : OneT Try.prog 15 := ⟨by kernel_rfl, by kernel_rfl⟩
instance : ZeroT Try.prog 15 #[.pointer none] := ⟨by kernel_rfl⟩
instance : IfaceT Try.prog 15 := ⟨by kernel_rfl⟩
instance : OneT Try.prog 16 := ⟨by kernel_rfl, by kernel_rfl⟩
instance : ZeroT Try.prog 16 #[.pointer none] := ⟨by kernel_rfl⟩
instance : IfaceT Try.prog 16 := ⟨by kernel_rfl⟩
instance : OneT Try.prog 17 := ⟨by kernel_rfl, by kernel_rfl⟩
instance : ZeroT Try.prog 17 #[.pointer none] := ⟨by kernel_rfl⟩
instance : IfaceT Try.prog 17 := ⟨by kernel_rfl⟩
instance : RowT Try.prog 18 1 := ⟨by kernel_rfl, by kernel_rfl⟩
instance : IfaceT Try.prog 18 := ⟨by kernel_rfl⟩
instance : FldT Try.prog 18 0 0 1 := ⟨17, by kernel_rfl⟩
instance : FldV Try.prog 18 0 0 1 true := ⟨17, by kernel_rfl, by rw [if_pos rfl]; exact ⟨by kernel_rfl, rfl⟩⟩
instance : RowT Try.prog 19 1 := ⟨by kernel_rfl, by kernel_rfl⟩
instance : IfaceT Try.prog 19 := ⟨by kernel_rfl⟩
instance : FldT Try.prog 19 0 0 1 := ⟨17, by kernel_rfl⟩
instance : FldV Try.prog 19 0 0 1 true := ⟨17, by kernel_rfl, by rw [if_pos rfl]; exact ⟨by kernel_rfl, rfl⟩⟩
instance : OneT Try.prog 20 := ⟨by kernel_rfl, by kernel_rfl⟩
instance : ZeroT Try.prog 20 #[.nilIface] := ⟨by kernel_rfl⟩
instance : IfT Try.prog 20 := ⟨by kernel_rfl⟩
instance : OneT Try.prog 21 := ⟨by kernel_rfl, by kernel_rfl⟩
instance : ZeroT Try.prog 21 #[.int .i32 0] := ⟨by kernel_rfl⟩
instance : IntT Try.prog 21 .i32 := ⟨by kernel_rfl⟩
instance : IfaceT Try.prog 21 := ⟨by kernel_rfl⟩
instance : OneT Try.prog 22 := ⟨by kernel_rfl, by kernel_rfl⟩
instance : ElT Try.prog 22 1 := ⟨by kernel_rfl⟩
instance : SlT Try.prog 22 5 1 1 := ⟨by kernel_rfl⟩
instance : ZeroT Try.prog 22 #[.slice none 0 0] := ⟨by kernel_rfl⟩
instance : IfaceT Try.prog 22 := ⟨by kernel_rfl⟩
instance : RowT Try.prog 23 32 := ⟨by kernel_rfl, by kernel_rfl⟩
instance : ArT Try.prog 23 32 1 := ⟨by kernel_rfl⟩
instance : ZeroT Try.prog 23 (bvs (zs 32)) := ⟨by kernel_rfl⟩
instance : IfaceT Try.prog 23 := ⟨by kernel_rfl⟩
instance : RowT Try.prog 24 32 := ⟨by kernel_rfl, by kernel_rfl⟩
instance : ArT Try.prog 24 32 1 := ⟨by kernel_rfl⟩
instance : ZeroT Try.prog 24 (bvs (zs 32)) := ⟨by kernel_rfl⟩
instance : IfaceT Try.prog 24 := ⟨by kernel_rfl⟩
instance : RowT Try.prog 25 64 := ⟨by kernel_rfl, by kernel_rfl⟩
instance : ArT Try.prog 25 2 32 := ⟨by kernel_rfl⟩
instance : IfaceT Try.prog 25 := ⟨by kernel_rfl⟩
instance : RowT Try.prog 26 24 := ⟨by kernel_rfl, by kernel_rfl⟩
instance : ArT Try.prog 26 24 1 := ⟨by kernel_rfl⟩
instance : ZeroT Try.prog 26 (bvs (zs 24)) := ⟨by kernel_rfl⟩
instance : IfaceT Try.prog 26 := ⟨by kernel_rfl⟩
instance : RowT Try.prog 27 89 := ⟨by kernel_rfl, by kernel_rfl⟩
instance : IfaceT Try.prog 27 := ⟨by kernel_rfl⟩
instance : FldT Try.prog 27 0 0 1 := ⟨3, by kernel_rfl⟩
instance : FldV Try.prog 27 0 0 1 true := ⟨3, by kernel_rfl, by rw [if_pos rfl]; exact ⟨by kernel_rfl, rfl⟩⟩
instance : FldT Try.prog 27 1 1 64 := ⟨25, by kernel_rfl⟩
instance : FldV Try.prog 27 1 1 64 false := ⟨25, by kernel_rfl, by rw [if_neg (by decide)]; exact by kernel_rfl⟩
instance : FldT Try.prog 27 2 65 24 := ⟨26, by kernel_rfl⟩
instance : FldV Try.prog 27 2 65 24 false := ⟨26, by kernel_rfl, by rw [if_neg (by decide)]; exact by kernel_rfl⟩
instance : RowT Try.prog 28 89 := ⟨by kernel_rfl, by kernel_rfl⟩
instance : IfaceT Try.prog 28 := ⟨by kernel_rfl⟩
instance : FldT Try.prog 28 0 0 1 := ⟨3, by kernel_rfl⟩
instance : FldV Try.prog 28 0 0 1 true := ⟨3, by kernel_rfl, by rw [if_pos rfl]; exact ⟨by kernel_rfl, rfl⟩⟩
instance : FldT Try.prog 28 1 1 64 := ⟨25, by kernel_rfl⟩
instance : FldV Try.prog 28 1 1 64 false := ⟨25, by kernel_rfl, by rw [if_neg (by decide)]; exact by kernel_rfl⟩
instance : FldT Try.prog 28 2 65 24 := ⟨26, by kernel_rfl⟩
instance : FldV Try.prog 28 2 65 24 false := ⟨26, by kernel_rfl, by rw [if_neg (by decide)]; exact by kernel_rfl⟩
instance : RowT Try.prog 29 128 := ⟨by kernel_rfl, by kernel_rfl⟩
instance : ArT Try.prog 29 128 1 := ⟨by kernel_rfl⟩
instance : ZeroT Try.prog 29 (bvs (zs 128)) := ⟨by kernel_rfl⟩
instance : IfaceT Try.prog 29 := ⟨by kernel_rfl⟩
instance : RowT Try.prog 30 128 := ⟨by kernel_rfl, by kernel_rfl⟩
instance : ArT Try.prog 30 128 1 := ⟨by kernel_rfl⟩
instance : ZeroT Try.prog 30 (bvs (zs 128)) := ⟨by kernel_rfl⟩
instance : IfaceT Try.prog 30 := ⟨by kernel_rfl⟩
instance : OneT Try.prog 31 := ⟨by kernel_rfl, by kernel_rfl⟩
instance : ZeroT Try.prog 31 #[.nilIface] := ⟨by kernel_rfl⟩
instance : IfT Try.prog 31 := ⟨by kernel_rfl⟩
instance : OneT Try.prog 32 := ⟨by kernel_rfl, by kernel_rfl⟩
instance : ZeroT Try.prog 32 #[.nilIface] := ⟨by kernel_rfl⟩
instance : IfT Try.prog 32 := ⟨by kernel_rfl⟩
instance : OneT Try.prog 33 := ⟨by kernel_rfl, by kernel_rfl⟩
instance : OneT Try.prog 34 := ⟨by kernel_rfl, by kernel_rfl⟩
instance : ZeroT Try.prog 34 #[.nilFunc] := ⟨by kernel_rfl⟩
instance : IfaceT Try.prog 34 := ⟨by kernel_rfl⟩
instance : OneT Try.prog 35 := ⟨by kernel_rfl, by kernel_rfl⟩
instance : OneT Try.prog 36 := ⟨by kernel_rfl, by kernel_rfl⟩
instance : ZeroT Try.prog 36 #[.nilFunc] := ⟨by kernel_rfl⟩
instance : IfaceT Try.prog 36 := ⟨by kernel_rfl⟩
instance : OneT Try.prog 37 := ⟨by kernel_rfl, by kernel_rfl⟩
instance : OneT Try.prog 38 := ⟨by kernel_rfl, by kernel_rfl⟩
instance : ZeroT Try.prog 38 #[.nilFunc] := ⟨by kernel_rfl⟩
instance : IfaceT Try.prog 38 := ⟨by kernel_rfl⟩
instance : OneT Try.prog 39 := ⟨by kernel_rfl, by kernel_rfl⟩
instance : ZeroT Try.prog 39 #[.nilFunc] := ⟨by kernel_rfl⟩
instance : IfaceT Try.prog 39 := ⟨by kernel_rfl⟩
instance : OneT Try.prog 40 := ⟨by kernel_rfl, by kernel_rfl⟩
instance : ZeroT Try.prog 40 #[.int .i64 0] := ⟨by kernel_rfl⟩
instance : IntT Try.prog 40 .i64 := ⟨by kernel_rfl⟩
instance : IfaceT Try.prog 40 := ⟨by kernel_rfl⟩
instance : OneT Try.prog 41 := ⟨by kernel_rfl, by kernel_rfl⟩
instance : ZeroT Try.prog 41 #[.nilFunc] := ⟨by kernel_rfl⟩
instance : IfaceT Try.prog 41 := ⟨by kernel_rfl⟩
instance : OneT Try.prog 42 := ⟨by kernel_rfl, by kernel_rfl⟩
instance : ElT Try.prog 42 2 := ⟨by kernel_rfl⟩
instance : SlT Try.prog 42 93 2 32 := ⟨by kernel_rfl⟩
instance : ZeroT Try.prog 42 #[.slice none 0 0] := ⟨by kernel_rfl⟩
instance : IfaceT Try.prog 42 := ⟨by kernel_rfl⟩
instance : OneT Try.prog 43 := ⟨by kernel_rfl, by kernel_rfl⟩
instance : ZeroT Try.prog 43 #[.nilFunc] := ⟨by kernel_rfl⟩
instance : IfaceT Try.prog 43 := ⟨by kernel_rfl⟩
instance : OneT Try.prog 44 := ⟨by kernel_rfl, by kernel_rfl⟩
instance : ElT Try.prog 44 128 := ⟨by kernel_rfl⟩
instance : SlT Try.prog 44 30 128 128 := ⟨by kernel_rfl⟩
instance : ZeroT Try.prog 44 #[.slice none 0 0] := ⟨by kernel_rfl⟩
instance : IfaceT Try.prog 44 := ⟨by kernel_rfl⟩
instance : OneT Try.prog 45 := ⟨by kernel_rfl, by kernel_rfl⟩
instance : OneT Try.prog 46 := ⟨by kernel_rfl, by kernel_rfl⟩
instance : ZeroT Try.prog 46 #[.nilFunc] := ⟨by kernel_rfl⟩
instance : IfaceT Try.prog 46 := ⟨by kernel_rfl⟩
instance : OneT Try.prog 47 := ⟨by kernel_rfl, by kernel_rfl⟩
instance : ElT Try.prog 47 129 := ⟨by kernel_rfl⟩
instance : SlT Try.prog 47 70 129 136 := ⟨by kernel_rfl⟩
instance : ZeroT Try.prog 47 #[.slice none 0 0] := ⟨by kernel_rfl⟩
instance : IfaceT Try.prog 47 := ⟨by kernel_rfl⟩
instance : OneT Try.prog 48 := ⟨by kernel_rfl, by kernel_rfl⟩
instance : ZeroT Try.prog 48 #[.nilFunc] := ⟨by kernel_rfl⟩
instance : IfaceT Try.prog 48 := ⟨by kernel_rfl⟩
instance : OneT Try.prog 49 := ⟨by kernel_rfl, by kernel_rfl⟩
instance : ZeroT Try.prog 49 #[.nilFunc] := ⟨by kernel_rfl⟩
instance : IfaceT Try.prog 49 := ⟨by kernel_rfl⟩
instance : OneT Try.prog 50 := ⟨by kernel_rfl, by kernel_rfl⟩
instance : OneT Try.prog 51 := ⟨by kernel_rfl, by kernel_rfl⟩
instance : ZeroT Try.prog 51 #[.nilFunc] := ⟨by kernel_rfl⟩
instance : IfaceT Try.prog 51 := ⟨by kernel_rfl⟩
instance : OneT Try.prog 52 := ⟨by kernel_rfl, by kernel_rfl⟩
instance : ZeroT Try.prog 52 #[.nilFunc] := ⟨by kernel_rfl⟩
instance : IfaceT Try.prog 52 := ⟨by kernel_rfl⟩
instance : OneT Try.prog 53 := ⟨by kernel_rfl, by kernel_rfl⟩
instance : ZeroT Try.prog 53 #[.nilFunc] := ⟨by kernel_rfl⟩
instance : IfaceT Try.prog 53 := ⟨by kernel_rfl⟩
instance : OneT Try.prog 54 := ⟨by kernel_rfl, by kernel_rfl⟩
instance : ZeroT Try.prog 54 #[.nilFunc] := ⟨by kernel_rfl⟩
instance : IfaceT Try.prog 54 := ⟨by kernel_rfl⟩
instance : OneT Try.prog 55 := ⟨by kernel_rfl, by kernel_rfl⟩
instance : ZeroT Try.prog 55 #[.nilFunc] := ⟨by kernel_rfl⟩
instance : IfaceT Try.prog 55 := ⟨by kernel_rfl⟩
instance : OneT Try.prog 56 := ⟨by kernel_rfl, by kernel_rfl⟩
instance : ElT Try.prog 56 1 := ⟨by kernel_rfl⟩
instance : SlT Try.prog 56 22 1 24 := ⟨by kernel_rfl⟩
instance : ZeroT Try.prog 56 #[.slice none 0 0] := ⟨by kernel_rfl⟩
instance : IfaceT Try.prog 56 := ⟨by kernel_rfl⟩
instance : OneT Try.prog 57 := ⟨by kernel_rfl, by kernel_rfl⟩
instance : OneT Try.prog 58 := ⟨by kernel_rfl, by kernel_rfl⟩
instance : ZeroT Try.prog 58 #[.nilFunc] := ⟨by kernel_rfl⟩
instance : IfaceT Try.prog 58 := ⟨by kernel_rfl⟩
instance : OneT Try.prog 59 := ⟨by kernel_rfl, by kernel_rfl⟩
instance : ElT Try.prog 59 1 := ⟨by kernel_rfl⟩
instance : SlT Try.prog 59 3 1 8 := ⟨by kernel_rfl⟩
instance : ZeroT Try.prog 59 #[.slice none 0 0] := ⟨by kernel_rfl⟩
instance : IfaceT Try.prog 59 := ⟨by kernel_rfl⟩
instance : OneT Try.prog 60 := ⟨by kernel_rfl, by kernel_rfl⟩
instance : ZeroT Try.prog 60 #[.nilFunc] := ⟨by kernel_rfl⟩
instance : IfaceT Try.prog 60 := ⟨by kernel_rfl⟩
instance : OneT Try.prog 61 := ⟨by kernel_rfl, by kernel_rfl⟩
instance : ZeroT Try.prog 61 #[.nilFunc] := ⟨by kernel_rfl⟩
instance : IfaceT Try.prog 61 := ⟨by kernel_rfl⟩
instance : OneT Try.prog 62 := ⟨by kernel_rfl, by kernel_rfl⟩
instance : ZeroT Try.prog 62 #[.nilFunc] := ⟨by kernel_rfl⟩
instance : IfaceT Try.prog 62 := ⟨by kernel_rfl⟩
instance : OneT Try.prog 63 := ⟨by kernel_rfl, by kernel_rfl⟩
instance : ZeroT Try.prog 63 #[.nilFunc] := ⟨by kernel_rfl⟩
instance : IfaceT Try.prog 63 := ⟨by kernel_rfl⟩
instance : OneT Try.prog 64 := ⟨by kernel_rfl, by kernel_rfl⟩
instance : ZeroT Try.prog 64 #[.nilFunc] := ⟨by kernel_rfl⟩
instance : IfaceT Try.prog 64 := ⟨by kernel_rfl⟩
instance : RowT Try.prog 65 4 := ⟨by kernel_rfl, by kernel_rfl⟩
instance : IfaceT Try.prog 65 := ⟨by kernel_rfl⟩
instance : FldT Try.prog 65 0 0 1 := ⟨22, by kernel_rfl⟩
instance : FldV Try.prog 65 0 0 1 true := ⟨22, by kernel_rfl, by rw [if_pos rfl]; exact ⟨by kernel_rfl, rfl⟩⟩
instance : FldT Try.prog 65 1 1 1 := ⟨3, by kernel_rfl⟩
instance : FldV Try.prog 65 1 1 1 true := ⟨3, by kernel_rfl, by rw [if_pos rfl]; exact ⟨by kernel_rfl, rfl⟩⟩
instance : FldT Try.prog 65 2 2 1 := ⟨42, by kernel_rfl⟩
instance : FldV Try.prog 65 2 2 1 true := ⟨42, by kernel_rfl, by rw [if_pos rfl]; exact ⟨by kernel_rfl, rfl⟩⟩
instance : FldT Try.prog 65 3 3 1 := ⟨3, by kernel_rfl⟩
instance : FldV Try.prog 65 3 3 1 true := ⟨3, by kernel_rfl, by rw [if_pos rfl]; exact ⟨by kernel_rfl, rfl⟩⟩
instance : RowT Try.prog 66 4 := ⟨by kernel_rfl, by kernel_rfl⟩
instance : IfaceT Try.prog 66 := ⟨by kernel_rfl⟩
instance : FldT Try.prog 66 0 0 1 := ⟨22, by kernel_rfl⟩
instance : FldV Try.prog 66 0 0 1 true := ⟨22, by kernel_rfl, by rw [if_pos rfl]; exact ⟨by kernel_rfl, rfl⟩⟩
instance : FldT Try.prog 66 1 1 1 := ⟨3, by kernel_rfl⟩
instance : FldV Try.prog 66 1 1 1 true := ⟨3, by kernel_rfl, by rw [if_pos rfl]; exact ⟨by kernel_rfl, rfl⟩⟩
instance : FldT Try.prog 66 2 2 1 := ⟨42, by kernel_rfl⟩
instance : FldV Try.prog 66 2 2 1 true := ⟨42, by kernel_rfl, by rw [if_pos rfl]; exact ⟨by kernel_rfl, rfl⟩⟩
instance : FldT Try.prog 66 3 3 1 := ⟨3, by kernel_rfl⟩
instance : FldV Try.prog 66 3 3 1 true := ⟨3, by kernel_rfl, by rw [if_pos rfl]; exact ⟨by kernel_rfl, rfl⟩⟩
instance : OneT Try.prog 67 := ⟨by kernel_rfl, by kernel_rfl⟩
instance : ZeroT Try.prog 67 #[.nilFunc] := ⟨by kernel_rfl⟩
instance : IfaceT Try.prog 67 := ⟨by kernel_rfl⟩
instance : OneT Try.prog 68 := ⟨by kernel_rfl, by kernel_rfl⟩
instance : ZeroT Try.prog 68 #[.nilFunc] := ⟨by kernel_rfl⟩
instance : IfaceT Try.prog 68 := ⟨by kernel_rfl⟩
instance : RowT Try.prog 69 129 := ⟨by kernel_rfl, by kernel_rfl⟩
instance : IfaceT Try.prog 69 := ⟨by kernel_rfl⟩
instance : FldT Try.prog 69 0 0 1 := ⟨3, by kernel_rfl⟩
instance : FldV Try.prog 69 0 0 1 true := ⟨3, by kernel_rfl, by rw [if_pos rfl]; exact ⟨by kernel_rfl, rfl⟩⟩
instance : FldT Try.prog 69 1 1 128 := ⟨30, by kernel_rfl⟩
instance : FldV Try.prog 69 1 1 128 false := ⟨30, by kernel_rfl, by rw [if_neg (by decide)]; exact by kernel_rfl⟩
instance : RowT Try.prog 70 129 := ⟨by kernel_rfl, by kernel_rfl⟩
instance : IfaceT Try.prog 70 := ⟨by kernel_rfl⟩
instance : FldT Try.prog 70 0 0 1 := ⟨3, by kernel_rfl⟩
instance : FldV Try.prog 70 0 0 1 true := ⟨3, by kernel_rfl, by rw [if_pos rfl]; exact ⟨by kernel_rfl, rfl⟩⟩
instance : FldT Try.prog 70 1 1 128 := ⟨30, by kernel_rfl⟩
instance : FldV Try.prog 70 1 1 128 false := ⟨30, by kernel_rfl, by rw [if_neg (by decide)]; exact by kernel_rfl⟩
instance : OneT Try.prog 71 := ⟨by kernel_rfl, by kernel_rfl⟩
instance : ZeroT Try.prog 71 #[.nilFunc] := ⟨by kernel_rfl⟩
instance : IfaceT Try.prog 71 := ⟨by kernel_rfl⟩
instance : OneT Try.prog 72 := ⟨by kernel_rfl, by kernel_rfl⟩
instance : ZeroT Try.prog 72 #[.nilFunc] := ⟨by kernel_rfl⟩
instance : IfaceT Try.prog 72 := ⟨by kernel_rfl⟩
instance : RowT Try.prog 73 4 := ⟨by kernel_rfl, by kernel_rfl⟩
instance : IfaceT Try.prog 73 := ⟨by kernel_rfl⟩
instance : FldT Try.prog 73 0 0 1 := ⟨22, by kernel_rfl⟩
instance : FldV Try.prog 73 0 0 1 true := ⟨22, by kernel_rfl, by rw [if_pos rfl]; exact ⟨by kernel_rfl, rfl⟩⟩
instance : FldT Try.prog 73 1 1 1 := ⟨22, by kernel_rfl⟩
instance : FldV Try.prog 73 1 1 1 true := ⟨22, by kernel_rfl, by rw [if_pos rfl]; exact ⟨by kernel_rfl, rfl⟩⟩
instance : FldT Try.prog 73 2 2 1 := ⟨3, by kernel_rfl⟩
instance : FldV Try.prog 73 2 2 1 true := ⟨3, by kernel_rfl, by rw [if_pos rfl]; exact ⟨by kernel_rfl, rfl⟩⟩
instance : FldT Try.prog 73 3 3 1 := ⟨42, by kernel_rfl⟩
instance : FldV Try.prog 73 3 3 1 true := ⟨42, by kernel_rfl, by rw [if_pos rfl]; exact ⟨by kernel_rfl, rfl⟩⟩
instance : RowT Try.prog 74 4 := ⟨by kernel_rfl, by kernel_rfl⟩
instance : IfaceT Try.prog 74 := ⟨by kernel_rfl⟩
instance : FldT Try.prog 74 0 0 1 := ⟨22, by kernel_rfl⟩
instance : FldV Try.prog 74 0 0 1 true := ⟨22, by kernel_rfl, by rw [if_pos rfl]; exact ⟨by kernel_rfl, rfl⟩⟩
instance : FldT Try.prog 74 1 1 1 := ⟨22, by kernel_rfl⟩
instance : FldV Try.prog 74 1 1 1 true := ⟨22, by kernel_rfl, by rw [if_pos rfl]; exact ⟨by kernel_rfl, rfl⟩⟩
instance : FldT Try.prog 74 2 2 1 := ⟨3, by kernel_rfl⟩
instance : FldV Try.prog 74 2 2 1 true := ⟨3, by kernel_rfl, by rw [if_pos rfl]; exact ⟨by kernel_rfl, rfl⟩⟩
instance : FldT Try.prog 74 3 3 1 := ⟨42, by kernel_rfl⟩
instance : FldV Try.prog 74 3 3 1 true := ⟨42, by kernel_rfl, by rw [if_pos rfl]; exact ⟨by kernel_rfl, rfl⟩⟩
instance : OneT Try.prog 75 := ⟨by kernel_rfl, by kernel_rfl⟩
instance : ZeroT Try.prog 75 #[.nilFunc] := ⟨by kernel_rfl⟩
instance : IfaceT Try.prog 75 := ⟨by kernel_rfl⟩
instance : OneT Try.prog 76 := ⟨by kernel_rfl, by kernel_rfl⟩
instance : ZeroT Try.prog 76 #[.nilFunc] := ⟨by kernel_rfl⟩
instance : IfaceT Try.prog 76 := ⟨by kernel_rfl⟩
instance : OneT Try.prog 77 := ⟨by kernel_rfl, by kernel_rfl⟩
instance : ZeroT Try.prog 77 #[.nilFunc] := ⟨by kernel_rfl⟩
instance : IfaceT Try.prog 77 := ⟨by kernel_rfl⟩
instance : OneT Try.prog 78 := ⟨by kernel_rfl, by kernel_rfl⟩
instance : ZeroT Try.prog 78 #[.nilFunc] := ⟨by kernel_rfl⟩
instance : IfaceT Try.prog 78 := ⟨by kernel_rfl⟩
instance : OneT Try.prog 79 := ⟨by kernel_rfl, by kernel_rfl⟩
instance : ZeroT Try.prog 79 #[.nilFunc] := ⟨by kernel_rfl⟩
instance : IfaceT Try.prog 79 := ⟨by kernel_rfl⟩
instance : OneT Try.prog 80 := ⟨by kernel_rfl, by kernel_rfl⟩
instance : ZeroT Try.prog 80 #[.nilFunc] := ⟨by kernel_rfl⟩
instance : IfaceT Try.prog 80 := ⟨by kernel_rfl⟩
instance : OneT Try.prog 81 := ⟨by kernel_rfl, by kernel_rfl⟩
instance : ZeroT Try.prog 81 #[.int .u64 0] := ⟨by kernel_rfl⟩
instance : IntT Try.prog 81 .u64 := ⟨by kernel_rfl⟩
instance : IfaceT Try.prog 81 := ⟨by kernel_rfl⟩
instance : OneT Try.prog 82 := ⟨by kernel_rfl, by kernel_rfl⟩
instance : ZeroT Try.prog 82 #[.nilFunc] := ⟨by kernel_rfl⟩
instance : IfaceT Try.prog 82 := ⟨by kernel_rfl⟩
instance : OneT Try.prog 83 := ⟨by kernel_rfl, by kernel_rfl⟩
instance : OneT Try.prog 84 := ⟨by kernel_rfl, by kernel_rfl⟩
instance : ZeroT Try.prog 84 #[.nilFunc] := ⟨by kernel_rfl⟩
instance : IfaceT Try.prog 84 := ⟨by kernel_rfl⟩
instance : OneT Try.prog 85 := ⟨by kernel_rfl, by kernel_rfl⟩
instance : ZeroT Try.prog 85 #[.nilFunc] := ⟨by kernel_rfl⟩
instance : IfaceT Try.prog 85 := ⟨by kernel_rfl⟩
instance : OneT Try.prog 86 := ⟨by kernel_rfl, by kernel_rfl⟩
instance : OneT Try.prog 87 := ⟨by kernel_rfl, by kernel_rfl⟩
instance : ZeroT Try.prog 87 #[.nilFunc] := ⟨by kernel_rfl⟩
instance : IfaceT Try.prog 87 := ⟨by kernel_rfl⟩
instance : OneT Try.prog 88 := ⟨by kernel_rfl, by kernel_rfl⟩
instance : ZeroT Try.prog 88 #[.nilFunc] := ⟨by kernel_rfl⟩
instance : IfaceT Try.prog 88 := ⟨by kernel_rfl⟩
instance : OneT Try.prog 89 := ⟨by kernel_rfl, by kernel_rfl⟩
instance : ZeroT Try.prog 89 #[.nilFunc] := ⟨by kernel_rfl⟩
instance : IfaceT Try.prog 89 := ⟨by kernel_rfl⟩
instance : OneT Try.prog 90 := ⟨by kernel_rfl, by kernel_rfl⟩
instance : ZeroT Try.prog 90 #[.nilFunc] := ⟨by kernel_rfl⟩
instance : IfaceT Try.prog 90 := ⟨by kernel_rfl⟩
instance : OneT Try.prog 91 := ⟨by kernel_rfl, by kernel_rfl⟩
instance : ZeroT Try.prog 91 #[.nilFunc] := ⟨by kernel_rfl⟩
instance : IfaceT Try.prog 91 := ⟨by kernel_rfl⟩
instance : RowT Try.prog 92 2 := ⟨by kernel_rfl, by kernel_rfl⟩
instance : IfaceT Try.prog 92 := ⟨by kernel_rfl⟩
instance : FldT Try.prog 92 0 0 1 := ⟨3, by kernel_rfl⟩
instance : FldV Try.prog 92 0 0 1 true := ⟨3, by kernel_rfl, by rw [if_pos rfl]; exact ⟨by kernel_rfl, rfl⟩⟩
instance : FldT Try.prog 92 1 1 1 := ⟨22, by kernel_rfl⟩
instance : FldV Try.prog 92 1 1 1 true := ⟨22, by kernel_rfl, by rw [if_pos rfl]; exact ⟨by kernel_rfl, rfl⟩⟩
instance : RowT Try.prog 93 2 := ⟨by kernel_rfl, by kernel_rfl⟩
instance : IfaceT Try.prog 93 := ⟨by kernel_rfl⟩
instance : FldT Try.prog 93 0 0 1 := ⟨3, by kernel_rfl⟩
instance : FldV Try.prog 93 0 0 1 true := ⟨3, by kernel_rfl, by rw [if_pos rfl]; exact ⟨by kernel_rfl, rfl⟩⟩
instance : FldT Try.prog 93 1 1 1 := ⟨22, by kernel_rfl⟩
instance : FldV Try.prog 93 1 1 1 true := ⟨22, by kernel_rfl, by rw [if_pos rfl]; exact ⟨by kernel_rfl, rfl⟩⟩
instance : OneT Try.prog 94 := ⟨by kernel_rfl, by kernel_rfl⟩
instance : ZeroT Try.prog 94 #[.nilFunc] := ⟨by kernel_rfl⟩
instance : IfaceT Try.prog 94 := ⟨by kernel_rfl⟩
instance : OneT Try.prog 95 := ⟨by kernel_rfl, by kernel_rfl⟩
instance : ZeroT Try.prog 95 #[.nilFunc] := ⟨by kernel_rfl⟩
instance : IfaceT Try.prog 95 := ⟨by kernel_rfl⟩
instance : OneT Try.prog 96 := ⟨by kernel_rfl, by kernel_rfl⟩
instance : ZeroT Try.prog 96 #[.nilFunc] := ⟨by kernel_rfl⟩
instance : IfaceT Try.prog 96 := ⟨by kernel_rfl⟩
instance : OneT Try.prog 97 := ⟨by kernel_rfl, by kernel_rfl⟩
instance : ZeroT Try.prog 97 #[.nilFunc] := ⟨by kernel_rfl⟩
instance : IfaceT Try.prog 97 := ⟨by kernel_rfl⟩
instance : OneT Try.prog 98 := ⟨by kernel_rfl, by kernel_rfl⟩
instance : ZeroT Try.prog 98 #[.int .u64 0] := ⟨by kernel_rfl⟩
instance : IntT Try.prog 98 .u64 := ⟨by kernel_rfl⟩
instance : IfaceT Try.prog 98 := ⟨by kernel_rfl⟩
instance : OneT Try.prog 99 := ⟨by kernel_rfl, by kernel_rfl⟩
instance : ZeroT Try.prog 99 #[.nilFunc] := ⟨by kernel_rfl⟩
instance : IfaceT Try.prog 99 := ⟨by kernel_rfl⟩
instance : OneT Try.prog 100 := ⟨by kernel_rfl, by kernel_rfl⟩
instance : ZeroT Try.prog 100 #[.nilFunc] := ⟨by kernel_rfl⟩
instance : IfaceT Try.prog 100 := ⟨by kernel_rfl⟩
instance : OneT Try.prog 101 := ⟨by kernel_rfl, by kernel_rfl⟩
instance : ZeroT Try.prog 101 #[.map none] := ⟨by kernel_rfl⟩
instance : IfaceT Try.prog 101 := ⟨by kernel_rfl⟩
instance : OneT Try.prog 102 := ⟨by kernel_rfl, by kernel_rfl⟩
instance : ZeroT Try.prog 102 #[.nilFunc] := ⟨by kernel_rfl⟩
instance : IfaceT Try.prog 102 := ⟨by kernel_rfl⟩
instance : OneT Try.prog 103 := ⟨by kernel_rfl, by kernel_rfl⟩
instance : ZeroT Try.prog 103 #[.nilFunc] := ⟨by kernel_rfl⟩
instance : IfaceT Try.prog 103 := ⟨by kernel_rfl⟩
instance : OneT Try.prog 104 := ⟨by kernel_rfl, by kernel_rfl⟩
instance : ZeroT Try.prog 104 #[.nilFunc] := ⟨by kernel_rfl⟩
instance : IfaceT Try.prog 104 := ⟨by kernel_rfl⟩
instance : OneT Try.prog 105 := ⟨by kernel_rfl, by kernel_rfl⟩
instance : ZeroT Try.prog 105 #[.nilFunc] := ⟨by kernel_rfl⟩
instance : IfaceT Try.prog 105 := ⟨by kernel_rfl⟩
instance : OneT Try.prog 106 := ⟨by kernel_rfl, by kernel_rfl⟩
instance : ZeroT Try.prog 106 #[.nilFunc] := ⟨by kernel_rfl⟩
instance : IfaceT Try.prog 106 := ⟨by kernel_rfl⟩
instance : OneT Try.prog 107 := ⟨by kernel_rfl, by kernel_rfl⟩
instance : ZeroT Try.prog 107 #[.nilFunc] := ⟨by kernel_rfl⟩
instance : IfaceT Try.prog 107 := ⟨by kernel_rfl⟩
instance : RowT Try.prog 108 64 := ⟨by kernel_rfl, by kernel_rfl⟩
instance : ArT Try.prog 108 64 1 := ⟨by kernel_rfl⟩
instance : ZeroT Try.prog 108 (bvs (zs 64)) := ⟨by kernel_rfl⟩
instance : IfaceT Try.prog 108 := ⟨by kernel_rfl⟩
instance : OneT Try.prog 109 := ⟨by kernel_rfl, by kernel_rfl⟩
instance : ZeroT Try.prog 109 #[.nilFunc] := ⟨by kernel_rfl⟩
instance : IfaceT Try.prog 109 := ⟨by kernel_rfl⟩
instance : OneT Try.prog 110 := ⟨by kernel_rfl, by kernel_rfl⟩
instance : ZeroT Try.prog 110 #[.nilFunc] := ⟨by kernel_rfl⟩
instance : IfaceT Try.prog 110 := ⟨by kernel_rfl⟩
instance : OneT Try.prog 111 := ⟨by kernel_rfl, by kernel_rfl⟩
instance : ZeroT Try.prog 111 #[.nilFunc] := ⟨by kernel_rfl⟩
instance : IfaceT Try.prog 111 := ⟨by kernel_rfl⟩
instance : OneT Try.prog 112 := ⟨by kernel_rfl, by kernel_rfl⟩
instance : OneT Try.prog 113 := ⟨by kernel_rfl, by kernel_rfl⟩
instance : ZeroT Try.prog 113 #[.map none] := ⟨by kernel_rfl⟩
instance : IfaceT Try.prog 113 := ⟨by kernel_rfl⟩
instance : OneT Try.prog 114 := ⟨by kernel_rfl, by kernel_rfl⟩
instance : OneT Try.prog 115 := ⟨by kernel_rfl, by kernel_rfl⟩
instance : ZeroT Try.prog 115 #[.nilFunc] := ⟨by kernel_rfl⟩
instance : IfaceT Try.prog 115 := ⟨by kernel_rfl⟩
instance : OneT Try.prog 116 := ⟨by kernel_rfl, by kernel_rfl⟩
instance : ZeroT Try.prog 116 #[.nilFunc] := ⟨by kernel_rfl⟩
instance : IfaceT Try.prog 116 := ⟨by kernel_rfl⟩
instance : OneT Try.prog 117 := ⟨by kernel_rfl, by kernel_rfl⟩
instance : ZeroT Try.prog 117 #[.nilFunc] := ⟨by kernel_rfl⟩
instance : IfaceT Try.prog 117 := ⟨by kernel_rfl⟩
instance : OneT Try.prog 118 := ⟨by kernel_rfl, by kernel_rfl⟩
instance : ZeroT Try.prog 118 #[.int .u32 0] := ⟨by kernel_rfl⟩
instance : IntT Try.prog 118 .u32 := ⟨by kernel_rfl⟩
instance : IfaceT Try.prog 118 := ⟨by kernel_rfl⟩
instance : RowT Try.prog 119 64 := ⟨by kernel_rfl, by kernel_rfl⟩
instance : ArT Try.prog 119 64 1 := ⟨by kernel_rfl⟩
instance : IfaceT Try.prog 119 := ⟨by kernel_rfl⟩
instance : RowT Try.prog 120 8 := ⟨by kernel_rfl, by kernel_rfl⟩
instance : ArT Try.prog 120 8 1 := ⟨by kernel_rfl⟩
instance : IfaceT Try.prog 120 := ⟨by kernel_rfl⟩
instance : OneT Try.prog 121 := ⟨by kernel_rfl, by kernel_rfl⟩
instance : OneT Try.prog 122 := ⟨by kernel_rfl, by kernel_rfl⟩
instance : ZeroT Try.prog 122 #[.nilFunc] := ⟨by kernel_rfl⟩
instance : IfaceT Try.prog 122 := ⟨by kernel_rfl⟩
instance : OneT Try.prog 123 := ⟨by kernel_rfl, by kernel_rfl⟩
instance : ZeroT Try.prog 123 #[.nilFunc] := ⟨by kernel_rfl⟩
instance : IfaceT Try.prog 123 := ⟨by kernel_rfl⟩
instance : OneT Try.prog 124 := ⟨by kernel_rfl, by kernel_rfl⟩
instance : ZeroT Try.prog 124 #[.nilFunc] := ⟨by kernel_rfl⟩
instance : IfaceT Try.prog 124 := ⟨by kernel_rfl⟩
instance : OneT Try.prog 125 := ⟨by kernel_rfl, by kernel_rfl⟩
instance : ZeroT Try.prog 125 #[.nilFunc] := ⟨by kernel_rfl⟩
instance : IfaceT Try.prog 125 := ⟨by kernel_rfl⟩
instance : OneT Try.prog 126 := ⟨by kernel_rfl, by kernel_rfl⟩
instance : ZeroT Try.prog 126 #[.nilFunc] := ⟨by kernel_rfl⟩
instance : IfaceT Try.prog 126 := ⟨by kernel_rfl⟩
instance : OneT Try.prog 127 := ⟨by kernel_rfl, by kernel_rfl⟩
instance : ZeroT Try.prog 127 #[.nilFunc] := ⟨by kernel_rfl⟩
instance : IfaceT Try.prog 127 := ⟨by kernel_rfl⟩
instance : OneT Try.prog 128 := ⟨by kernel_rfl, by kernel_rfl⟩
instance : ZeroT Try.prog 128 #[.nilFunc] := ⟨by kernel_rfl⟩
instance : IfaceT Try.prog 128 := ⟨by kernel_rfl⟩
instance : OneT Try.prog 129 := ⟨by kernel_rfl, by kernel_rfl⟩
instance : ZeroT Try.prog 129 #[.nilFunc] := ⟨by kernel_rfl⟩
instance : IfaceT Try.prog 129 := ⟨by kernel_rfl⟩
instance : OneT Try.prog 130 := ⟨by kernel_rfl, by kernel_rfl⟩
instance : ZeroT Try.prog 130 #[.nilFunc] := ⟨by kernel_rfl⟩
instance : IfaceT Try.prog 130 := ⟨by kernel_rfl⟩
instance : OneT Try.prog 131 := ⟨by kernel_rfl, by kernel_rfl⟩
instance : ZeroT Try.prog 131 #[.nilFunc] := ⟨by kernel_rfl⟩
instance : IfaceT Try.prog 131 := ⟨by kernel_rfl⟩
instance : OneT Try.prog 132 := ⟨by kernel_rfl, by kernel_rfl⟩
instance : ZeroT Try.prog 132 #[.nilFunc] := ⟨by kernel_rfl⟩
instance : IfaceT Try.prog 132 := ⟨by kernel_rfl⟩
instance : OneT Try.prog 133 := ⟨by kernel_rfl, by kernel_rfl⟩
instance : ZeroT Try.prog 133 #[.nilFunc] := ⟨by kernel_rfl⟩
instance : IfaceT Try.prog 133 := ⟨by kernel_rfl⟩
instance : OneT Try.prog 134 := ⟨by kernel_rfl, by kernel_rfl⟩
instance : ZeroT Try.prog 134 #[.nilFunc] := ⟨by kernel_rfl⟩
instance : IfaceT Try.prog 134 := ⟨by kernel_rfl⟩
instance : OneT Try.prog 135 := ⟨by kernel_rfl, by kernel_rfl⟩
instance : ZeroT Try.prog 135 #[.nilFunc] := ⟨by kernel_rfl⟩
instance : IfaceT Try.prog 135 := ⟨by kernel_rfl⟩
instance : OneT Try.prog 136 := ⟨by kernel_rfl, by kernel_rfl⟩
instance : ZeroT Try.prog 136 #[.nilFunc] := ⟨by kernel_rfl⟩
instance : IfaceT Try.prog 136 := ⟨by kernel_rfl⟩
instance : OneT Try.prog 137 := ⟨by kernel_rfl, by kernel_rfl⟩
instance : ZeroT Try.prog 137 #[.nilFunc] := ⟨by kernel_rfl⟩
instance : IfaceT Try.prog 137 := ⟨by kernel_rfl⟩
instance : OneT Try.prog 138 := ⟨by kernel_rfl, by kernel_rfl⟩
instance : ZeroT Try.prog 138 #[.nilFunc] := ⟨by kernel_rfl⟩
instance : IfaceT Try.prog 138 := ⟨by kernel_rfl⟩
instance : OneT Try.prog 139 := ⟨by kernel_rfl, by kernel_rfl⟩
instance : ZeroT Try.prog 139 #[.nilFunc] := ⟨by kernel_rfl⟩
instance : IfaceT Try.prog 139 := ⟨by kernel_rfl⟩
instance : OneT Try.prog 140 := ⟨by kernel_rfl, by kernel_rfl⟩
instance : ZeroT Try.prog 140 #[.nilFunc] := ⟨by kernel_rfl⟩
instance : IfaceT Try.prog 140 := ⟨by kernel_rfl⟩
instance : OneT Try.prog 141 := ⟨by kernel_rfl, by kernel_rfl⟩
instance : ZeroT Try.prog 141 #[.nilFunc] := ⟨by kernel_rfl⟩
instance : IfaceT Try.prog 141 := ⟨by kernel_rfl⟩
instance : OneT Try.prog 142 := ⟨by kernel_rfl, by kernel_rfl⟩
instance : ZeroT Try.prog 142 #[.nilFunc] := ⟨by kernel_rfl⟩
instance : IfaceT Try.prog 142 := ⟨by kernel_rfl⟩
instance : OneT Try.prog 143 := ⟨by kernel_rfl, by kernel_rfl⟩
instance : ZeroT Try.prog 143 #[.nilFunc] := ⟨by kernel_rfl⟩
instance : IfaceT Try.prog 143 := ⟨by kernel_rfl⟩
instance : OneT Try.prog 144 := ⟨by kernel_rfl, by kernel_rfl⟩
instance : ZeroT Try.prog 144 #[.nilFunc] := ⟨by kernel_rfl⟩
instance : IfaceT Try.prog 144 := ⟨by kernel_rfl⟩
instance : OneT Try.prog 145 := ⟨by kernel_rfl, by kernel_rfl⟩
instance : ZeroT Try.prog 145 #[.nilFunc] := ⟨by kernel_rfl⟩
instance : IfaceT Try.prog 145 := ⟨by kernel_rfl⟩
instance : OneT Try.prog 146 := ⟨by kernel_rfl, by kernel_rfl⟩
instance : ElT Try.prog 146 1 := ⟨by kernel_rfl⟩
instance : SlT Try.prog 146 118 1 4 := ⟨by kernel_rfl⟩
instance : ZeroT Try.prog 146 #[.slice none 0 0] := ⟨by kernel_rfl⟩
instance : IfaceT Try.prog 146 := ⟨by kernel_rfl⟩
instance : OneT Try.prog 147 := ⟨by kernel_rfl, by kernel_rfl⟩
instance : ZeroT Try.prog 147 #[.nilFunc] := ⟨by kernel_rfl⟩
instance : IfaceT Try.prog 147 := ⟨by kernel_rfl⟩
instance : OneT Try.prog 148 := ⟨by kernel_rfl, by kernel_rfl⟩
instance : ZeroT Try.prog 148 #[.int .i64 0] := ⟨by kernel_rfl⟩
instance : IntT Try.prog 148 .i64 := ⟨by kernel_rfl⟩
instance : IfaceT Try.prog 148 := ⟨by kernel_rfl⟩
instance : OneT Try.prog 149 := ⟨by kernel_rfl, by kernel_rfl⟩
instance : OneT Try.prog 150 := ⟨by kernel_rfl, by kernel_rfl⟩
instance : ZeroT Try.prog 150 #[.nilFunc] := ⟨by kernel_rfl⟩
instance : IfaceT Try.prog 150 := ⟨by kernel_rfl⟩
instance : OneT Try.prog 151 := ⟨by kernel_rfl, by kernel_rfl⟩
instance : ZeroT Try.prog 151 #[.nilFunc] := ⟨by kernel_rfl⟩
instance : IfaceT Try.prog 151 := ⟨by kernel_rfl⟩
instance : OneT Try.prog 152 := ⟨by kernel_rfl, by kernel_rfl⟩
instance : ZeroT Try.prog 152 #[.nilFunc] := ⟨by kernel_rfl⟩
instance : IfaceT Try.prog 152 := ⟨by kernel_rfl⟩
instance : OneT Try.prog 153 := ⟨by kernel_rfl, by kernel_rfl⟩
instance : ZeroT Try.prog 153 #[.nilFunc] := ⟨by kernel_rfl⟩
instance : IfaceT Try.prog 153 := ⟨by kernel_rfl⟩
instance : OneT Try.prog 154 := ⟨by kernel_rfl, by kernel_rfl⟩
instance : ZeroT Try.prog 154 #[.nilFunc] := ⟨by kernel_rfl⟩
instance : IfaceT Try.prog 154 := ⟨by kernel_rfl⟩
instance : OneT Try.prog 155 := ⟨by kernel_rfl, by kernel_rfl⟩
instance : ZeroT Try.prog 155 #[.nilFunc] := ⟨by kernel_rfl⟩
instance : IfaceT Try.prog 155 := ⟨by kernel_rfl⟩
instance : OneT Try.prog 156 := ⟨by kernel_rfl, by kernel_rfl⟩
instance : ZeroT Try.prog 156 #[.nilFunc] := ⟨by kernel_rfl⟩
instance : IfaceT Try.prog 156 := ⟨by kernel_rfl⟩
instance : OneT Try.prog 157 := ⟨by kernel_rfl, by kernel_rfl⟩
instance : ZeroT Try.prog 157 #[.nilFunc] := ⟨by kernel_rfl⟩
instance : IfaceT Try.prog 157 := ⟨by kernel_rfl⟩
instance : OneT Try.prog 158 := ⟨by kernel_rfl, by kernel_rfl⟩
instance : ZeroT Try.prog 158 #[.int .u64 0] := ⟨by kernel_rfl⟩
instance : IntT Try.prog 158 .u64 := ⟨by kernel_rfl⟩
instance : IfaceT Try.prog 158 := ⟨by kernel_rfl⟩
instance : OneT Try.prog 159 := ⟨by kernel_rfl, by kernel_rfl⟩
instance : ZeroT Try.prog 159 #[.nilFunc] := ⟨by kernel_rfl⟩
instance : IfaceT Try.prog 159 := ⟨by kernel_rfl⟩
instance : OneT Try.prog 160 := ⟨by kernel_rfl, by kernel_rfl⟩
instance : ZeroT Try.prog 160 #[.nilFunc] := ⟨by kernel_rfl⟩
instance : IfaceT Try.prog 160 := ⟨by kernel_rfl⟩
instance : OneT Try.prog 161 := ⟨by kernel_rfl, by kernel_rfl⟩
instance : ZeroT Try.prog 161 #[.nilFunc] := ⟨by kernel_rfl⟩
instance : IfaceT Try.prog 161 := ⟨by kernel_rfl⟩
instance : OneT Try.prog 162 := ⟨by kernel_rfl, by kernel_rfl⟩
instance : ZeroT Try.prog 162 #[.pointer none] := ⟨by kernel_rfl⟩
instance : IfaceT Try.prog 162 := ⟨by kernel_rfl⟩
instance : OneT Try.prog 163 := ⟨by kernel_rfl, by kernel_rfl⟩
instance : ZeroT Try.prog 163 #[.nilFunc] := ⟨by kernel_rfl⟩
instance : IfaceT Try.prog 163 := ⟨by kernel_rfl⟩
instance : OneT Try.prog 164 := ⟨by kernel_rfl, by kernel_rfl⟩
instance : ZeroT Try.prog 164 #[.pointer none] := ⟨by kernel_rfl⟩
instance : IfaceT Try.prog 164 := ⟨by kernel_rfl⟩
instance : OneT Try.prog 165 := ⟨by kernel_rfl, by kernel_rfl⟩
instance : OneT Try.prog 166 := ⟨by kernel_rfl, by kernel_rfl⟩
instance : ZeroT Try.prog 166 #[.nilFunc] := ⟨by kernel_rfl⟩
instance : IfaceT Try.prog 166 := ⟨by kernel_rfl⟩
instance : OneT Try.prog 167 := ⟨by kernel_rfl, by kernel_rfl⟩
instance : ZeroT Try.prog 167 #[.nilFunc] := ⟨by kernel_rfl⟩
instance : IfaceT Try.prog 167 := ⟨by kernel_rfl⟩
instance : RowT Try.prog 168 4 := ⟨by kernel_rfl, by kernel_rfl⟩
instance : IfaceT Try.prog 168 := ⟨by kernel_rfl⟩
instance : FldT Try.prog 168 0 0 1 := ⟨17, by kernel_rfl⟩
instance : FldV Try.prog 168 0 0 1 true := ⟨17, by kernel_rfl, by rw [if_pos rfl]; exact ⟨by kernel_rfl, rfl⟩⟩
instance : FldT Try.prog 168 1 1 1 := ⟨17, by kernel_rfl⟩
instance : FldV Try.prog 168 1 1 1 true := ⟨17, by kernel_rfl, by rw [if_pos rfl]; exact ⟨by kernel_rfl, rfl⟩⟩
instance : FldT Try.prog 168 2 2 1 := ⟨17, by kernel_rfl⟩
instance : FldV Try.prog 168 2 2 1 true := ⟨17, by kernel_rfl, by rw [if_pos rfl]; exact ⟨by kernel_rfl, rfl⟩⟩
instance : FldT Try.prog 168 3 3 1 := ⟨9, by kernel_rfl⟩
instance : FldV Try.prog 168 3 3 1 true := ⟨9, by kernel_rfl, by rw [if_pos rfl]; exact ⟨by kernel_rfl, rfl⟩⟩
instance : RowT Try.prog 169 4 := ⟨by kernel_rfl, by kernel_rfl⟩
instance : IfaceT Try.prog 169 := ⟨by kernel_rfl⟩
instance : FldT Try.prog 169 0 0 1 := ⟨17, by kernel_rfl⟩
instance : FldV Try.prog 169 0 0 1 true := ⟨17, by kernel_rfl, by rw [if_pos rfl]; exact ⟨by kernel_rfl, rfl⟩⟩
instance : FldT Try.prog 169 1 1 1 := ⟨17, by kernel_rfl⟩
instance : FldV Try.prog 169 1 1 1 true := ⟨17, by kernel_rfl, by rw [if_pos rfl]; exact ⟨by kernel_rfl, rfl⟩⟩
instance : FldT Try.prog 169 2 2 1 := ⟨17, by kernel_rfl⟩
instance : FldV Try.prog 169 2 2 1 true := ⟨17, by kernel_rfl, by rw [if_pos rfl]; exact ⟨by kernel_rfl, rfl⟩⟩
instance : FldT Try.prog 169 3 3 1 := ⟨9, by kernel_rfl⟩
instance : FldV Try.prog 169 3 3 1 true := ⟨9, by kernel_rfl, by rw [if_pos rfl]; exact ⟨by kernel_rfl, rfl⟩⟩
instance : IfaceT Try.prog 170 := ⟨by kernel_rfl⟩
instance : IfaceT Try.prog 171 := ⟨by kernel_rfl⟩
instance : IfaceT Try.prog 172 := ⟨by kernel_rfl⟩
instance : OneT Try.prog 173 := ⟨by kernel_rfl, by kernel_rfl⟩
instance : ZeroT Try.prog 173 #[.nilFunc] := ⟨by kernel_rfl⟩
instance : IfaceT Try.prog 173 := ⟨by kernel_rfl⟩
instance : OneT Try.prog 174 := ⟨by kernel_rfl, by kernel_rfl⟩
instance : ZeroT Try.prog 174 #[.int .u8 0] := ⟨by kernel_rfl⟩
instance : IntT Try.prog 174 .u8 := ⟨by kernel_rfl⟩
instance : IfaceT Try.prog 174 := ⟨by kernel_rfl⟩
instance : OneT Try.prog 175 := ⟨by kernel_rfl, by kernel_rfl⟩
instance : ZeroT Try.prog 175 #[.int .u8 0] := ⟨by kernel_rfl⟩
instance : IntT Try.prog 175 .u8 := ⟨by kernel_rfl⟩
instance : IfaceT Try.prog 175 := ⟨by kernel_rfl⟩
instance : OneT Try.prog 176 := ⟨by kernel_rfl, by kernel_rfl⟩
instance : ZeroT Try.prog 176 #[.nilFunc] := ⟨by kernel_rfl⟩
instance : IfaceT Try.prog 176 := ⟨by kernel_rfl⟩
instance : OneT Try.prog 177 := ⟨by kernel_rfl, by kernel_rfl⟩
instance : ZeroT Try.prog 177 #[.pointer none] := ⟨by kernel_rfl⟩
instance : IfaceT Try.prog 177 := ⟨by kernel_rfl⟩
instance : OneT Try.prog 178 := ⟨by kernel_rfl, by kernel_rfl⟩
instance : ZeroT Try.prog 178 #[.int .i32 0] := ⟨by kernel_rfl⟩
instance : IntT Try.prog 178 .i32 := ⟨by kernel_rfl⟩
instance : IfaceT Try.prog 178 := ⟨by kernel_rfl⟩
instance : OneT Try.prog 179 := ⟨by kernel_rfl, by kernel_rfl⟩
instance : ZeroT Try.prog 179 #[.int .i32 0] := ⟨by kernel_rfl⟩
instance : IntT Try.prog 179 .i32 := ⟨by kernel_rfl⟩
instance : IfaceT Try.prog 179 := ⟨by kernel_rfl⟩
instance : RowT Try.prog 180 11 := ⟨by kernel_rfl, by kernel_rfl⟩
instance : IfaceT Try.prog 180 := ⟨by kernel_rfl⟩
instance : FldT Try.prog 180 0 0 1 := ⟨12, by kernel_rfl⟩
instance : FldV Try.prog 180 0 0 1 true := ⟨12, by kernel_rfl, by rw [if_pos rfl]; exact ⟨by kernel_rfl, rfl⟩⟩
instance : FldT Try.prog 180 1 1 1 := ⟨12, by kernel_rfl⟩
instance : FldV Try.prog 180 1 1 1 true := ⟨12, by kernel_rfl, by rw [if_pos rfl]; exact ⟨by kernel_rfl, rfl⟩⟩
instance : FldT Try.prog 180 2 2 1 := ⟨118, by kernel_rfl⟩
instance : FldV Try.prog 180 2 2 1 true := ⟨118, by kernel_rfl, by rw [if_pos rfl]; exact ⟨by kernel_rfl, rfl⟩⟩
instance : FldT Try.prog 180 3 3 1 := ⟨174, by kernel_rfl⟩
instance : FldV Try.prog 180 3 3 1 true := ⟨174, by kernel_rfl, by rw [if_pos rfl]; exact ⟨by kernel_rfl, rfl⟩⟩
instance : FldT Try.prog 180 4 4 1 := ⟨5, by kernel_rfl⟩
instance : FldV Try.prog 180 4 4 1 true := ⟨5, by kernel_rfl, by rw [if_pos rfl]; exact ⟨by kernel_rfl, rfl⟩⟩
instance : FldT Try.prog 180 5 5 1 := ⟨5, by kernel_rfl⟩
instance : FldV Try.prog 180 5 5 1 true := ⟨5, by kernel_rfl, by rw [if_pos rfl]; exact ⟨by kernel_rfl, rfl⟩⟩
instance : FldT Try.prog 180 6 6 1 := ⟨175, by kernel_rfl⟩
instance : FldV Try.prog 180 6 6 1 true := ⟨175, by kernel_rfl, by rw [if_pos rfl]; exact ⟨by kernel_rfl, rfl⟩⟩
instance : FldT Try.prog 180 7 7 1 := ⟨176, by kernel_rfl⟩
instance : FldV Try.prog 180 7 7 1 true := ⟨176, by kernel_rfl, by rw [if_pos rfl]; exact ⟨by kernel_rfl, rfl⟩⟩
instance : FldT Try.prog 180 8 8 1 := ⟨177, by kernel_rfl⟩
instance : FldV Try.prog 180 8 8 1 true := ⟨177, by kernel_rfl, by rw [if_pos rfl]; exact ⟨by kernel_rfl, rfl⟩⟩
instance : FldT Try.prog 180 9 9 1 := ⟨178, by kernel_rfl⟩
instance : FldV Try.prog 180 9 9 1 true := ⟨178, by kernel_rfl, by rw [if_pos rfl]; exact ⟨by kernel_rfl, rfl⟩⟩
instance : FldT Try.prog 180 10 10 1 := ⟨179, by kernel_rfl⟩
instance : FldV Try.prog 180 10 10 1 true := ⟨179, by kernel_rfl, by rw [if_pos rfl]; exact ⟨by kernel_rfl, rfl⟩⟩
instance : RowT Try.prog 181 11 := ⟨by kernel_rfl, by kernel_rfl⟩
instance : IfaceT Try.prog 181 := ⟨by kernel_rfl⟩
instance : FldT Try.prog 181 0 0 1 := ⟨12, by kernel_rfl⟩
instance : FldV Try.prog 181 0 0 1 true := ⟨12, by kernel_rfl, by rw [if_pos rfl]; exact ⟨by kernel_rfl, rfl⟩⟩
instance : FldT Try.prog 181 1 1 1 := ⟨12, by kernel_rfl⟩
instance : FldV Try.prog 181 1 1 1 true := ⟨12, by kernel_rfl, by rw [if_pos rfl]; exact ⟨by kernel_rfl, rfl⟩⟩
instance : FldT Try.prog 181 2 2 1 := ⟨118, by kernel_rfl⟩
instance : FldV Try.prog 181 2 2 1 true := ⟨118, by kernel_rfl, by rw [if_pos rfl]; exact ⟨by kernel_rfl, rfl⟩⟩
instance : FldT Try.prog 181 3 3 1 := ⟨174, by kernel_rfl⟩
instance : FldV Try.prog 181 3 3 1 true := ⟨174, by kernel_rfl, by rw [if_pos rfl]; exact ⟨by kernel_rfl, rfl⟩⟩
instance : FldT Try.prog 181 4 4 1 := ⟨5, by kernel_rfl⟩
instance : FldV Try.prog 181 4 4 1 true := ⟨5, by kernel_rfl, by rw [if_pos rfl]; exact ⟨by kernel_rfl, rfl⟩⟩
instance : FldT Try.prog 181 5 5 1 := ⟨5, by kernel_rfl⟩
instance : FldV Try.prog 181 5 5 1 true := ⟨5, by kernel_rfl, by rw [if_pos rfl]; exact ⟨by kernel_rfl, rfl⟩⟩
instance : FldT Try.prog 181 6 6 1 := ⟨175, by kernel_rfl⟩
instance : FldV Try.prog 181 6 6 1 true := ⟨175, by kernel_rfl, by rw [if_pos rfl]; exact ⟨by kernel_rfl, rfl⟩⟩
instance : FldT Try.prog 181 7 7 1 := ⟨176, by kernel_rfl⟩
instance : FldV Try.prog 181 7 7 1 true := ⟨176, by kernel_rfl, by rw [if_pos rfl]; exact ⟨by kernel_rfl, rfl⟩⟩
instance : FldT Try.prog 181 8 8 1 := ⟨177, by kernel_rfl⟩
instance : FldV Try.prog 181 8 8 1 true := ⟨177, by kernel_rfl, by rw [if_pos rfl]; exact ⟨by kernel_rfl, rfl⟩⟩
instance : FldT Try.prog 181 9 9 1 := ⟨178, by kernel_rfl⟩
instance : FldV Try.prog 181 9 9 1 true := ⟨178, by kernel_rfl, by rw [if_pos rfl]; exact ⟨by kernel_rfl, rfl⟩⟩
instance : FldT Try.prog 181 10 10 1 := ⟨179, by kernel_rfl⟩
instance : FldV Try.prog 181 10 10 1 true := ⟨179, by kernel_rfl, by rw [if_pos rfl]; exact ⟨by kernel_rfl, rfl⟩⟩
instance : OneT Try.prog 182 := ⟨by kernel_rfl, by kernel_rfl⟩
instance : IfaceT Try.prog 182 := ⟨by kernel_rfl⟩
instance : GoF Try.prog 3 := ⟨by kernel_rfl⟩
instance : GoF Try.prog 4 := ⟨by kernel_rfl⟩
instance : GoF Try.prog 5 := ⟨by kernel_rfl⟩
instance : GoF Try.prog 6 := ⟨by kernel_rfl⟩
instance : GoF Try.prog 7 := ⟨by kernel_rfl⟩
instance : GoF Try.prog 8 := ⟨by kernel_rfl⟩
instance : GoF Try.prog 9 := ⟨by kernel_rfl⟩
instance : GoF Try.prog 10 := ⟨by kernel_rfl⟩
instance : GoF Try.prog 11 := ⟨by kernel_rfl⟩
instance : GoF Try.prog 12 := ⟨by kernel_rfl⟩
instance : GoF Try.prog 13 := ⟨by kernel_rfl⟩
instance : GoF Try.prog 14 := ⟨by kernel_rfl⟩
instance : GoF Try.prog 15 := ⟨by kernel_rfl⟩
instance : GoF Try.prog 16 := ⟨by kernel_rfl⟩
instance : GoF Try.prog 17 := ⟨by kernel_rfl⟩
instance : GoF Try.prog 18 := ⟨by kernel_rfl⟩
instance : GoF Try.prog 19 := ⟨by kernel_rfl⟩
instance : GoF Try.prog 20 := ⟨by kernel_rfl⟩
instance : GoF Try.prog 21 := ⟨by kernel_rfl⟩
instance : GoF Try.prog 22 := ⟨by kernel_rfl⟩
instance : GoF Try.prog 23 := ⟨by kernel_rfl⟩
instance : GoF Try.prog 24 := ⟨by kernel_rfl⟩
instance : GoF Try.prog 25 := ⟨by kernel_rfl⟩
instance : GoF Try.prog 26 := ⟨by kernel_rfl⟩
instance : GoF Try.prog 27 := ⟨by kernel_rfl⟩
instance : GoF Try.prog 28 := ⟨by kernel_rfl⟩
instance : GoF Try.prog 29 := ⟨by kernel_rfl⟩
instance : GoF Try.prog 30 := ⟨by kernel_rfl⟩
instance : GoF Try.prog 31 := ⟨by kernel_rfl⟩
instance : GoF Try.prog 32 := ⟨by kernel_rfl⟩
instance : GoF Try.prog 33 := ⟨by kernel_rfl⟩
instance : GoF Try.prog 34 := ⟨by kernel_rfl⟩
instance : GoF Try.prog 35 := ⟨by kernel_rfl⟩
instance : GoF Try.prog 36 := ⟨by kernel_rfl⟩
instance : GoF Try.prog 37 := ⟨by kernel_rfl⟩
instance : GoF Try.prog 38 := ⟨by kernel_rfl⟩
instance : GoF Try.prog 39 := ⟨by kernel_rfl⟩
instance : GoF Try.prog 40 := ⟨by kernel_rfl⟩
instance : GoF Try.prog 41 := ⟨by kernel_rfl⟩
instance : GoF Try.prog 42 := ⟨by kernel_rfl⟩
instance : GoF Try.prog 43 := ⟨by kernel_rfl⟩
instance : GoF Try.prog 44 := ⟨by kernel_rfl⟩
instance : GoF Try.prog 45 := ⟨by kernel_rfl⟩
instance : GoF Try.prog 46 := ⟨by kernel_rfl⟩
instance : GoF Try.prog 47 := ⟨by kernel_rfl⟩
instance : GoF Try.prog 48 := ⟨by kernel_rfl⟩
instance : GoF Try.prog 49 := ⟨by kernel_rfl⟩
instance : GoF Try.prog 50 := ⟨by kernel_rfl⟩
instance : GoF Try.prog 51 := ⟨by kernel_rfl⟩
instance : GoF Try.prog 52 := ⟨by kernel_rfl⟩
instance : GoF Try.prog 53 := ⟨by kernel_rfl⟩
instance : GoF Try.prog 54 := ⟨by kernel_rfl⟩
instance : GoF Try.prog 55 := ⟨by kernel_rfl⟩
instance : GoF Try.prog 56 := ⟨by kernel_rfl⟩
instance : GoF Try.prog 57 := ⟨by kernel_rfl⟩
instance : GoF Try.prog 58 := ⟨by kernel_rfl⟩
instance : GoF Try.prog 59 := ⟨by kernel_rfl⟩
instance : GoF Try.prog 60 := ⟨by kernel_rfl⟩
instance : GoF Try.prog 61 := ⟨by kernel_rfl⟩
instance : GoF Try.prog 62 := ⟨by kernel_rfl⟩
instance : GoF Try.prog 63 := ⟨by kernel_rfl⟩
instance : GoF Try.prog 64 := ⟨by kernel_rfl⟩
instance : GoF Try.prog 65 := ⟨by kernel_rfl⟩
instance : GoF Try.prog 66 := ⟨by kernel_rfl⟩
instance : GoF Try.prog 67 := ⟨by kernel_rfl⟩
instance : GoF Try.prog 68 := ⟨by kernel_rfl⟩
instance : GoF Try.prog 69 := ⟨by kernel_rfl⟩
instance : GoF Try.prog 70 := ⟨by kernel_rfl⟩
instance : GoF Try.prog 71 := ⟨by kernel_rfl⟩
instance : GoF Try.prog 72 := ⟨by kernel_rfl⟩
instance : GoF Try.prog 73 := ⟨by kernel_rfl⟩
instance : GoF Try.prog 74 := ⟨by kernel_rfl⟩
instance : GoF Try.prog 75 := ⟨by kernel_rfl⟩
instance : GoF Try.prog 76 := ⟨by kernel_rfl⟩
instance : GoF Try.prog 77 := ⟨by kernel_rfl⟩
instance : GoF Try.prog 78 := ⟨by kernel_rfl⟩
instance : GoF Try.prog 79 := ⟨by kernel_rfl⟩
instance : GoF Try.prog 81 := ⟨by kernel_rfl⟩
instance : GoF Try.prog 82 := ⟨by kernel_rfl⟩
instance : GoF Try.prog 83 := ⟨by kernel_rfl⟩
instance : GoF Try.prog 84 := ⟨by kernel_rfl⟩
instance : GoF Try.prog 85 := ⟨by kernel_rfl⟩
instance : GoF Try.prog 86 := ⟨by kernel_rfl⟩
instance : GoF Try.prog 87 := ⟨by kernel_rfl⟩
instance : GoF Try.prog 88 := ⟨by kernel_rfl⟩
instance : GoF Try.prog 89 := ⟨by kernel_rfl⟩
instance : GoF Try.prog 90 := ⟨by kernel_rfl⟩
instance : GoF Try.prog 91 := ⟨by kernel_rfl⟩
instance : GoF Try.prog 92 := ⟨by kernel_rfl⟩
instance : GoF Try.prog 93 := ⟨by kernel_rfl⟩
instance : GoF Try.prog 96 := ⟨by kernel_rfl⟩
instance : GoF Try.prog 97 := ⟨by kernel_rfl⟩
instance : GoF Try.prog 99 := ⟨by kernel_rfl⟩
instance : GoF Try.prog 100 := ⟨by kernel_rfl⟩
instance : GoF Try.prog 102 := ⟨by kernel_rfl⟩
instance : GoF Try.prog 103 := ⟨by kernel_rfl⟩
instance : GoF Try.prog 104 := ⟨by kernel_rfl⟩

end Go.Proofs.Ytcjncidahjneaaa
