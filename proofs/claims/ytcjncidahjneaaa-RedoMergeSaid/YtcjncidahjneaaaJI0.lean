/-
  Laws that the claims of this seat use, of several texts in one: Fluid, Hd0, MapI, Rd1, Wp2, Rd2, Rd3, Rd4. No condition of their own.
-/
import Derived.Maps.OwnOps
import Derived.Maps.Views
import Derived.Test.YtcjncidahjneaaaJH0

namespace Go.Proofs.Ytcjncidahjneaaa
open Go.RowKit
/-- Each operation but those of F waits for number i. -/
def addG (F : List Nat) (i : Nat) : Nat → List Oper → List Oper
  | _, [] => []
  | k, o :: l => (if F.contains k then o else ⟨o.dst, o.op, o.type, o.pos, (o.after.toList ++ [(⟨i, .data⟩ : Edge)]).toArray, o.guard⟩) :: addG F i (k + 1) l
def isMove (o : Oper) : Bool := (match o.op with | .move _ => true | _ => false) && o.after.isEmpty && o.guard.isNone && o.dst.isSome
def fluidOK (F : List Nat) : List Nat → List Oper → Bool
  | [], _ => true
  | i :: r, l => F.contains i && (match l[i]? with | some o => isMove o | none => false) && Region.noSelect l.toArray && Region.free .any l.toArray (Array.replicate l.length false) i && fluidOK F r (addG F i 0 l)
def addGs (F : List Nat) : List Nat → List Oper → List Oper
  | [], l => l
  | i :: r, l => addGs F r (addG F i 0 l)
section
variable {P : Program} {Q : Exit → Act → World → Prop} {F : List Nat} {i : Nat}
theorem addG_len : ∀ (k : Nat) (l : List Oper), (addG F i k l).length = l.length
  | _, [] => rfl
  | k, o :: l => by simp only [addG, List.length_cons, addG_len (k + 1) l]
theorem addG_at : ∀ (k : Nat) (l : List Oper) (j : Nat), (addG F i k l)[j]? = (l[j]?).map fun o => if F.contains (k + j) then o else ⟨o.dst, o.op, o.type, o.pos, (o.after.toList ++ [(⟨i, .data⟩ : Edge)]).toArray, o.guard⟩
  | k, [], j => by simp [addG]
  | k, o :: l, 0 => by simp [addG]
  | k, o :: l, j + 1 => by
    simp only [addG, List.getElem?_cons_succ]
    rw [addG_at (k + 1) l j, show k + 1 + j = k + (j + 1) by omega]
theorem addG_yielded (l : List Oper) (tmps : Array Value) (j : Nat) : yielded (addG F i 0 l).toArray tmps j = yielded l.toArray tmps j := by
  unfold yielded
  rw [List.getElem?_toArray, List.getElem?_toArray, addG_at]
  cases l[j]? with
  | none => rfl
  | some o =>
    have e : (if F.contains (0 + j) = true then o else ⟨o.dst, o.op, o.type, o.pos, (o.after.toList ++ [(⟨i, .data⟩ : Edge)]).toArray, o.guard⟩ : Oper).dst = o.dst := by split <;> rfl
    simp only [Option.map_some, Option.bind_some, e]
theorem addG_ready {l : List Oper} {x : Array Bool} (hx : x.getD i false = true) {j : Nat} : j ∈ Region.ready .any (addG F i 0 l).toArray x ↔ j ∈ Region.ready .any l.toArray x := by
  rw [mem_ready, mem_ready]
  refine and_congr Iff.rfl ?_
  rw [List.getElem?_toArray, List.getElem?_toArray, addG_at]
  cases l[j]? with
  | none => simp
  | some o =>
    simp only [Option.map_some, Option.some.injEq, exists_eq_left']
    by_cases hF : F.contains (0 + j) = true
    · rw [if_pos hF]
    · rw [if_neg hF]
      constructor
      · intro h e he hb
        exact h e (by simp only [List.mem_toArray, List.mem_append]; exact .inl (by simpa using he)) hb
      · intro h e he hb
        simp only [List.mem_toArray, List.mem_append, List.mem_singleton] at he
        rcases he with he | rfl
        · exact h e (by simpa using he) hb
        · exact hx
theorem any_drop {l : List Oper} : ∀ (fuel : Nat) (x : Array Bool) (a : Act) (w : World), x.getD i false = true → wpAny P .any (addG F i 0 l).toArray Q fuel x a w → wpAny P .any l.toArray Q fuel x a w := by
  have hnil : ∀ (x : Array Bool), x.getD i false = true → (Region.ready .any (addG F i 0 l).toArray x = [] ↔ Region.ready .any l.toArray x = []) := by
    intro x hx
    rw [List.eq_nil_iff_forall_not_mem, List.eq_nil_iff_forall_not_mem]
    exact forall_congr' fun j => not_congr (addG_ready hx)
  intro fuel
  induction fuel with
  | zero => intro x a w hx h; exact ⟨(hnil x hx).1 h.1, h.2⟩
  | succ fuel ih =>
    intro x a w hx h
    refine ⟨fun h0 => h.1 ((hnil x hx).2 h0), fun j hj => ?_⟩
    obtain ⟨_, o, ho, _⟩ := mem_ready.1 hj
    have h1 := h.2 j ((addG_ready hx).2 hj)
    have hxi : (x.setIfInBounds j true).getD i false = true := by
      by_cases hji : j = i
      · subst hji
        simp only [Array.getD] at hx ⊢
        split at hx
        · next hlt => simp [hlt]
        · cases hx
      · rw [getD_set_ne false hji]; exact hx
    have hK : ∀ a' w', wpAny P .any (addG F i 0 l).toArray Q fuel (x.setIfInBounds j true) a' w' → wpAny P .any l.toArray Q fuel (x.setIfInBounds j true) a' w' := fun a' w' hh => ih _ a' w' hxi hh
    have ho2 : l[j]? = some o := by simpa using ho
    unfold wpOp at h1 ⊢
    rw [List.getElem?_toArray, addG_at, ho2] at h1
    rw [List.getElem?_toArray, ho2]
    simp only [Option.map_some] at h1 ⊢
    have hw : ∀ o' : Oper, o'.guard = o.guard → Region.wanted o' (yielded (addG F i 0 l).toArray a.tmps) = Region.wanted o (yielded l.toArray a.tmps) := by
      intro o' hg
      unfold Region.wanted
      rw [hg]
      cases o.guard with
      | none => rfl
      | some g => simp only [addG_yielded]
    have key : ∀ o' : Oper, o'.op = o.op → o'.dst = o.dst → o'.guard = o.guard → (Oper.wp P o' a w (wpAny P .any (addG F i 0 l).toArray Q fuel (x.setIfInBounds j true)) Q ↔ Oper.wp P o a w (wpAny P .any (addG F i 0 l).toArray Q fuel (x.setIfInBounds j true)) Q) ∧ (o'.asks P a w ↔ o.asks P a w) →
        (if Region.wanted o' (yielded (addG F i 0 l).toArray a.tmps) = true then Oper.wp P o' a w (wpAny P .any (addG F i 0 l).toArray Q fuel (x.setIfInBounds j true)) Q ∨ (o'.asks P a w ∧ LetsOut Q) else wpAny P .any (addG F i 0 l).toArray Q fuel (x.setIfInBounds j true) (a.put o'.dst undef) w) →
        (if Region.wanted o (yielded l.toArray a.tmps) = true then Oper.wp P o a w (wpAny P .any l.toArray Q fuel (x.setIfInBounds j true)) Q ∨ (o.asks P a w ∧ LetsOut Q) else wpAny P .any l.toArray Q fuel (x.setIfInBounds j true) (a.put o.dst undef) w) := by
      intro o' _ hd hg hiff hh
      rw [hw o' hg] at hh
      split
      · next hwt =>
        rw [if_pos hwt] at hh
        exact hh.imp (fun h2 => Oper.wp_mono hK (hiff.1.1 h2)) (fun h2 => ⟨hiff.2.1 h2.1, h2.2⟩)
      · next hwt =>
        rw [if_neg hwt, hd] at hh
        exact hK _ _ hh
    by_cases hF : F.contains (0 + j) = true
    · rw [if_pos hF] at h1
      exact key o rfl rfl rfl ⟨Iff.rfl, Iff.rfl⟩ h1
    · rw [if_neg hF] at h1
      exact key _ rfl rfl rfl ⟨Iff.rfl, Iff.rfl⟩ h1
theorem any_one {l : List Oper} {o : Oper} (ho : l[i]? = some o) (hm : isMove o = true) (hF : F.contains i = true) (hs : Region.noSelect l.toArray = true) (hf : Region.free .any l.toArray (Array.replicate l.length false) i = true) (hQ : ∀ (d : Nat) v c a w, Q (.panic c) (a.put (some d) v) w → Q (.panic c) a w)
    {fuel : Nat} {a : Act} {w : World} (h : wpAny P .any (addG F i 0 l).toArray Q fuel (Array.replicate l.length false) a w) : wpAny P .any l.toArray Q fuel (Array.replicate l.length false) a w := by
  have hil := (List.getElem?_eq_some_iff.1 ho).1
  simp only [isMove, Bool.and_eq_true] at hm
  obtain ⟨⟨⟨hmo, hma⟩, hmg⟩, hmd⟩ := hm
  obtain ⟨d, hd⟩ := Option.isSome_iff_exists.1 hmd
  have hg : o.guard = none := by simpa using hmg
  have hae : o.after = #[] := by simpa using hma
  have hr0 : ∀ {L : List Oper}, L[i]? = some o → i ∈ Region.ready .any L.toArray (Array.replicate l.length false) := fun {L} hL => by
    refine mem_ready.2 ⟨by simp [Array.getD, hil], o, by simpa using hL, fun e he => ?_⟩
    rw [hae] at he
    simp at he
  have hL2 : (addG F i 0 l)[i]? = some o := by rw [addG_at, ho, Option.map_some, Nat.zero_add, if_pos hF]
  obtain ⟨x, hx⟩ : ∃ x, o.op = .move x := by
    cases hop : o.op <;> rw [hop] at hmo <;> first | exact ⟨_, rfl⟩ | (cases hmo)
  have hrun : ∀ w, (execOp a.eval o).run P w = .ok (.value (a.eval x)) w := fun w => by unfold execOp; rw [hx]; rfl
  have hwt : ∀ y, Region.wanted o y = true := fun y => by unfold Region.wanted; rw [hg]
  cases fuel with
  | zero =>
    have := hr0 hL2
    rw [h.1] at this; cases this
  | succ fuel =>
    have h1 := h.2 i (hr0 hL2)
    unfold wpOp at h1
    rw [List.getElem?_toArray, hL2] at h1
    simp only at h1
    rw [if_pos (hwt _)] at h1
    have h2 : wpAny P .any (addG F i 0 l).toArray Q fuel ((Array.replicate l.length false).setIfInBounds i true) (a.put o.dst (a.eval x)) w := by
      rcases h1 with h1 | ⟨h1, _⟩
      · unfold Oper.wp at h1
        rw [hrun] at h1
        exact h1
      · exfalso
        have h3 := h1.1
        have h4 : ((execOp a.eval o).runT P w #[]).2 = #[] := by
          unfold execOp
          rw [hx]
          rfl
        rw [h4] at h3
        simp at h3
    have h3 := any_drop fuel _ _ w (by simp [Array.getD, hil]) h2
    exact wpAny_take (by simpa using ho) hs hf (by simpa using hr0 ho) (fun c a w => by rw [hd]; exact hQ _ _ c a w) (.inl ⟨hwt _, hrun⟩) h3
theorem any_fluid : ∀ (R : List Nat) (l : List Oper), fluidOK F R l = true → (∀ (d : Nat) v c a w, Q (.panic c) (a.put (some d) v) w → Q (.panic c) a w) → ∀ {fuel : Nat} {a : Act} {w : World},
    wpAny P .any (addGs F R l).toArray Q fuel (Array.replicate l.length false) a w → wpAny P .any l.toArray Q fuel (Array.replicate l.length false) a w
  | [], l, _, _, _, _, _, h => h
  | i :: R, l, hok, hQ, fuel, a, w, h => by
    simp only [fluidOK, Bool.and_eq_true] at hok
    obtain ⟨⟨⟨⟨h1, h2⟩, h3⟩, h4⟩, h5⟩ := hok
    split at h2
    · next o ho =>
      refine any_one ho h2 h1 h3 h4 hQ ?_
      have h6 := any_fluid R (addG F i 0 l) h5 hQ (fuel := fuel) (a := a) (w := w) (by rw [addG_len]; exact h)
      rw [addG_len] at h6
      exact h6
    · cases h2
/-- **The region, some copies first (F), then one walk in an order of one's own.** -/
theorem region_fluid_lit {id : Nat} {a : Act} {w : World} {l : List Oper} (F : List Nat) (s : List Nat) (n : Nat) {l2 : List Oper} (hm : P.follows .mixedOrders = true) (hF : fluidOK F F l = true) (hlen : (addGs F F l).length = l.length) (hs : permOK s (addGs F F l) = true) (hl : permL s (addGs F F l) = l2) (hB : frontOK .any (l2.take n) (l2.drop n) = true)
    (hQ : ∀ (d : Nat) v c a w, Q (.panic c) (a.put (some d) v) w → Q (.panic c) a w)
    (h : wpM P .any l2.toArray w (fun a' F => ∀ b w', Cls w w' → (∀ x ∈ F, w.heap.size ≤ b x.1 ∧ blk w' (b x.1) = some (.cells x.2.1 x.2.2 (0, 0))) → (∀ x ∈ F, ∀ y ∈ F, x.1 ≠ y.1 → b x.1 ≠ b y.1) → wpList P l2.toArray Q (l2.drop n) (a' b) w') (l2.take n) 0 (fun _ => a) []) :
    (Code.region id l.toArray true).wp P Q a w := by
  subst hl
  have h1 := any_mono hB h
  rw [perm_len hs] at h1
  refine wp_region_any hm ?_
  rw [List.size_toArray]
  refine any_fluid F l hF hQ ?_
  rw [← hlen]
  refine any_perm hs _ _ _ a _ (by simp) (by simp) (fun i hi => ?_) h1
  have := (perm_1 hs hi).1
  simp [Array.getD, hi, this]
end
end Go.Proofs.Ytcjncidahjneaaa

namespace Go.Proofs.Ytcjncidahjneaaa
open Go.ChangeShapes Go.WideShapes Go.ChangeAt Go.RowKit
attribute [local irreducible] wpList wpListIn Oper.quietAt wpM
/-- A head's cells: its count, then bytes. -/
def hdV (n : Int) (B : List UInt8) : Array Value := (.int .i64 n :: B.map bv).toArray
theorem hdV_size (n : Int) (B : List UInt8) : csz (hdV n B) = B.length + 1 := by unfold hdV csz; simp
theorem hdV_ones (n : Int) (B : List UInt8) : ones (hdV n B) = true := by
  unfold hdV
  refine ones_lit ?_
  rw [List.all_cons, List.all_map]
  simp [Value.oneCell', bv]
end Go.Proofs.Ytcjncidahjneaaa

namespace Go.Proofs.Ytcjncidahjneaaa
open Go.ChangeShapes Go.WideShapes Go.ChangeAt Go.RowKit
attribute [local irreducible] wpList wpListIn Oper.quietAt wpM
open Go.Maps
abbrev mapAt (w : World) (B n : Nat) (D : DataW Unit) : Prop := w.ownsMap Try.prog 3 (plainElem Try.prog 3) B n D
theorem map_kept {w w' : World} {B n : Nat} {D : DataW Unit} (h : mapAt w B n D) (hb : w'.heap[B]? = w.heap[B]?) : mapAt w' B n D := by
  obtain ⟨es, clock, h1, h2⟩ := h
  exact ⟨es, clock, hb.trans h1, h2⟩
theorem map_obj {w : World} {B n : Nat} {D : DataW Unit} (h : mapAt w B n D) : B < w.heap.size ∧ ∀ cs t fr, w.heap[B]? ≠ some (.cells cs t fr) := by
  obtain ⟨es, clock, h1, h2⟩ := h
  exact ⟨(Array.getElem?_eq_some_iff.1 h1).1, fun cs t fr e => by rw [h1] at e; cases e⟩
def StM (w0 : World) (B n : Nat) (D : DataW Unit) (w : World) (L : List Blk) : Prop := St w0 w L ∧ mapAt w B n D ∧ w0.heap.size ≤ B
theorem own_stM {w0 : World} {B n : Nat} {D : DataW Unit} : Own w0.heap.size (StM w0 B n D) where
  blk := fun i _ _ _ h hi => h.1.blk i hi
  call := fun h hb => ⟨h.1.call hb, map_kept h.2.1 (hb.block B (map_obj h.2.1).1), h.2.2⟩
  alloc := fun cs t h => ⟨h.1.alloc cs t, map_kept h.2.1 (Below.heap_alloc _ _ _ (map_obj h.2.1).1), h.2.2⟩
  setRow := fun {w} {L} i {b} {cs} {t} cs' h hi => ⟨h.1.setRow i hi cs', map_kept h.2.1 (setRow_other w b B cs' (fun e => by
    have h1 : w.heap[b]? = some (.cells cs t (0, 0)) := h.1.blk i hi
    exact (map_obj h.2.1).2 _ _ _ (e ▸ h1))), h.2.2⟩
  size := fun h => h.1.1.size
  add := fun h hB hn hb => ⟨h.1.add hB hn hb, h.2⟩
  nodup := fun h => h.1.2.2
  sub := fun h hx hn => ⟨⟨h.1.1, fun x hm => h.1.2.1 x (hx x hm), hn⟩, h.2⟩
theorem StM.far {w0 wr : World} {B n : Nat} {D : DataW Unit} {L : List Blk} (h : StM w0 B n D wr L) {b : Nat} {cs : Array Value} {t : TypeId} {fr : Nat × Nat} (hb : Go.Proofs.Ytcjncidahjneaaa.blk w0 b = some (.cells cs t fr)) : Go.Proofs.Ytcjncidahjneaaa.blk wr b = some (.cells cs t fr) ∧ (∀ o, wr.cell? ⟨b, o, none⟩ = cs[o]?) ∧ b < w0.heap.size ∧ b < wr.heap.size ∧ ¬ b = wr.heap.size := h.1.far hb
theorem i64_wf {a : Int} (h : -9223372036854775808 ≤ a ∧ a ≤ 9223372036854775807) : (Lit.int .i64 a).wf = true := by
  have q1 : IntKind.i64.min = -9223372036854775808 := rfl
  have q2 : IntKind.i64.max = 9223372036854775807 := rfl
  simp only [Lit.wf, Bool.and_eq_true, decide_eq_true_eq]
  omega
variable {ops : Array Oper} {Q : Exit → Act → World → Prop} {o : Oper} {rest : List Oper} {a : Act} {w w0 : World} {L : List Blk}
/-- make(map[int]int). -/
theorem s_makeMap {t : TypeId} (hS : St w0 w L) (hw : Region.wanted o (yielded ops a.tmps) = true) (hop : o.op = .makeMap t none) (hk : ∀ B w', StM w0 B 0 (.map []) w' L → wpList Try.prog ops Q rest (a.put o.dst (.map (some B))) w') : wpList Try.prog ops Q (o :: rest) a w := by
  refine Aa.go hw (by unfold Bp; rw [hop]) (v := .map (some w.heap.size)) (w' := w.alloc (.map #[] 0)) ?_ (hk _ _ ⟨hS.call ((Below.refl _ _).alloc (Nat.le_refl _) _), World.ownsMap_made _ _ _ _, hS.1.size⟩)
  unfold execOp; rw [hop]
  rfl
theorem s_update {m x v : Operand} {t : TypeId} {B n : Nat} {D : DataW Unit} {k z : Int} (hS : StM w0 B n D w L) (hg : o.guard = none) (hop : o.op = .mapUpdate t m x v) (ht : Try.prog.underlying t = some (.map 3 3)) (hn : n < 1000000) (hm : evO a m = some (.map (some B))) (hx : evO a x = some (.int .i64 k)) (hv : evO a v = some (.int .i64 z)) (hk1 : -9223372036854775808 ≤ k ∧ k ≤ 9223372036854775807) (hz : -9223372036854775808 ≤ z ∧ z ≤ 9223372036854775807)
    (hk : ∀ w', StM w0 B (n + 1) (D.put (.int .i64 k) (.lit (.int .i64 z))) w' L → wpList Try.prog ops Q rest (a.put o.dst undef) w') : wpList Try.prog ops Q (o :: rest) a w := by
  refine wpList_mapUpdate_own w hg m x v t hop 3 3 (int_keyed Try.underlying3) ht _ B n D (Bb hm) hS.2.1 (by unfold maxLen; omega) _ _ _ (Bb hx) (Bb hv) (keyOf_int_mk Try.underlying3 (i64_wf hk1)) _ [] (plainElem_int Try.underlying3 (i64_wf hz)) ?_
  intro w' h1 h2
  refine hk w' ⟨?_, h1, hS.2.2⟩
  obtain ⟨hb, hl, hnd⟩ := hS.1
  have hbelow : Below w0.heap.size w w' := ⟨h2.os, h2.tape, h2.output, h2.size, fun k hk => h2.block k (Nat.lt_of_lt_of_le hk hb.size) (fun e => by cases e; exact Nat.lt_irrefl _ (Nat.lt_of_lt_of_le hk hS.2.2))⟩
  refine ⟨hb.trans hbelow, fun y hy => ⟨(hl y hy).1, ?_⟩, hnd⟩
  have h3 := (hl y hy).2
  have h4 : y.1 < w.heap.size := blk_lt h3
  refine (h2.block y.1 h4 (fun e => ?_)).trans h3
  cases e
  exact (map_obj hS.2.1).2 _ _ _ h3
end Go.Proofs.Ytcjncidahjneaaa

namespace Go.Proofs.Ytcjncidahjneaaa
open Go.ChangeShapes Go.WideShapes Go.ChangeAt Go.RowKit
attribute [local irreducible] wpList wpListIn Oper.quietAt wpM
open Go.Maps
/-- A put: its number, its sector. -/
abbrev Pt := Int × List UInt8
def putC (x : Pt) : List Value := .int .i64 x.1 :: x.2.map bv
def putsC (l : List Pt) : List Value := l.flatMap putC
def okP (l : List Pt) : Prop := ∀ x ∈ l, x.2.length = 128 ∧ (-9223372036854775808 ≤ x.1 ∧ x.1 ≤ 9223372036854775807)
theorem putC_len {x : Pt} (h : x.2.length = 128) : (putC x).length = 129 := by unfold putC; rw [List.length_cons, List.length_map, h]
theorem putsC_len : ∀ {l : List Pt}, okP l → (putsC l).length = l.length * 129
  | [], _ => rfl
  | x :: l, h => by
    unfold putsC
    rw [List.flatMap_cons, List.length_append, putC_len (h x (List.mem_cons_self ..)).1]
    have := putsC_len (l := l) (fun y hy => h y (List.mem_cons_of_mem _ hy))
    unfold putsC at this
    rw [this, List.length_cons]
    omega
theorem putsC_at : ∀ {l : List Pt}, okP l → ∀ {k : Nat} {x : Pt}, l[k]? = some x → ((putsC l).drop (k * 129)).take 129 = putC x
  | [], _, k, x, h => by simp at h
  | y :: l, h, 0, x, hx => by
    simp at hx; subst hx
    unfold putsC
    rw [List.flatMap_cons, Nat.zero_mul, List.drop_zero, List.take_left' (putC_len (h y (List.mem_cons_self ..)).1)]
  | y :: l, h, k + 1, x, hx => by
    have ih := putsC_at (l := l) (fun z hz => h z (List.mem_cons_of_mem _ hz)) (k := k) (x := x) (by simpa using hx)
    unfold putsC at ih ⊢
    rw [List.flatMap_cons, List.drop_append, List.drop_of_length_le (by rw [putC_len (h y (List.mem_cons_self ..)).1]; omega), List.nil_append, putC_len (h y (List.mem_cons_self ..)).1, show (k + 1) * 129 - 129 = k * 129 by omega]
    exact ih
/-- A slice of puts. -/
def PutsAt (w : World) (v : Value) (l : List Pt) : Prop := okP l ∧ ∃ p c, v = .slice p l.length c ∧ l.length ≤ c ∧ (p = none → c = 0) ∧ (l ≠ [] → ∃ b o cs t fr, p = some ⟨b, o, none⟩ ∧ blk w b = some (.cells cs t fr) ∧ ∀ j x, (putsC l)[j]? = some x → cs[o + j]? = some x)
theorem PutsAt.below {w w' : World} {v : Value} {l : List Pt} (h : PutsAt w v l) (hb : Below w.heap.size w w') : PutsAt w' v l := by
  obtain ⟨h0, p, c, h1, h2, h3, h4⟩ := h
  refine ⟨h0, p, c, h1, h2, h3, fun hne => ?_⟩
  obtain ⟨b, o, cs, t, fr, h5, h6, h7⟩ := h4 hne
  exact ⟨b, o, cs, t, fr, h5, (hb.block b (blk_lt h6)).trans h6, h7⟩
/-- One put of many, where it lies. -/
theorem put_cells {cs : Array Value} {o : Nat} {l : List Pt} (ho : okP l) (hc : ∀ j x, (putsC l)[j]? = some x → cs[o + j]? = some x) {k : Nat} {a : Int} {C : List UInt8} (hx : l[k]? = some (a, C)) :
    C.length = 128 ∧ o + k * 129 + 129 ≤ csz cs ∧ cut cs (o + k * 129) 129 = hdV a C ∧ cs[o + k * 129]? = some (.int .i64 a) ∧ (∀ i, i < 128 → cs[o + k * 129 + 1 + i]? = some (.int .u8 ((C.getD i 0).toNat : Int))) := by
  have hl : C.length = 128 := (ho _ (List.mem_of_getElem? hx)).1
  have hat := putsC_at ho hx
  have hg : ∀ i v, (putC (a, C))[i]? = some v → cs[o + k * 129 + i]? = some v := fun i v hv => by
    have h1 : ((putsC l).drop (k * 129))[i]? = some v := by
      rw [← hat, List.getElem?_take] at hv
      split at hv
      · exact hv
      · cases hv
    rw [List.getElem?_drop] at h1
    have := hc _ _ h1
    rwa [← Nat.add_assoc] at this
  have hlen := putC_len (x := (a, C)) hl
  have hsz : o + k * 129 + 129 ≤ cs.size := by
    have h1 : (putC (a, C))[128]? = some ((putC (a, C))[128]'(by omega)) := List.getElem?_eq_getElem (by omega)
    have := (Array.getElem?_eq_some_iff.1 (hg 128 _ h1)).1
    omega
  refine ⟨hl, by rw [csz_is]; exact hsz, ?_, ?_, fun i hi => ?_⟩
  · have hex : cs.extract (o + k * 129) (o + k * 129 + 129) = hdV a C := by
      apply Array.ext_getElem?
      intro i
      unfold hdV
      by_cases hi : i < 129
      · have h1 : (putC (a, C))[i]? = some ((putC (a, C))[i]'(by omega)) := List.getElem?_eq_getElem (by omega)
        have h2 := hg i _ h1
        rw [Array.getElem?_extract, if_pos (by omega), h2, List.getElem?_toArray, ← h1]
        rfl
      · rw [Array.getElem?_eq_none (by rw [Array.size_extract]; omega), Array.getElem?_eq_none (by rw [List.size_toArray]; unfold putC at hlen; dsimp only at hlen; omega)]
    unfold cut
    split
    · rename_i h
      have : cs.extract (o + k * 129) (o + k * 129 + 129) = cs := by
        rw [h.1]
        have h2 := h.2
        rw [csz_is] at h2
        rw [Nat.zero_add, ← h2, Array.extract_size]
      rw [← this]; exact hex
    · exact hex
  · have := hg 0 (.int .i64 a) rfl
    rwa [Nat.add_zero] at this
  · have h1 : (putC (a, C))[1 + i]? = some (.int .u8 ((C.getD i 0).toNat : Int)) := by
      show (Value.int .i64 a :: C.map bv)[1 + i]? = _
      rw [Nat.add_comm, List.getElem?_cons_succ, List.getElem?_map, List.getElem?_eq_getElem (by omega), List.getD_eq_getElem?_getD, List.getElem?_eq_getElem (by omega)]
      rfl
    have := hg (1 + i) _ h1
    rwa [← Nat.add_assoc] at this
instance instRd1_1 : ZeroT Try.prog 70 (hdV 0 (zs 128)) := ⟨by kernel_rfl⟩
end Go.Proofs.Ytcjncidahjneaaa

namespace Go.Proofs.Ytcjncidahjneaaa
open Go.ChangeShapes Go.WideShapes Go.ChangeAt Go.RowKit
attribute [local irreducible] wpList wpListIn Oper.quietAt wpM
instance instWp2_1 : AtT Try.prog 30 1 ((zs 128).map bv) := ⟨by kernel_rfl⟩
end Go.Proofs.Ytcjncidahjneaaa

namespace Go.Proofs.Ytcjncidahjneaaa
open Go.ChangeShapes Go.WideShapes Go.ChangeAt Go.RowKit
attribute [local irreducible] wpList wpListIn Oper.quietAt wpM
end Go.Proofs.Ytcjncidahjneaaa

namespace Go.Proofs.Ytcjncidahjneaaa
open Go.ChangeShapes Go.WideShapes Go.ChangeAt Go.RowKit
attribute [local irreducible] wpList wpListIn Oper.quietAt wpM
end Go.Proofs.Ytcjncidahjneaaa

namespace Go.Proofs.Ytcjncidahjneaaa
open Go.ChangeShapes Go.WideShapes Go.ChangeAt Go.RowKit
attribute [local irreducible] wpList wpListIn Oper.quietAt wpM
end Go.Proofs.Ytcjncidahjneaaa
