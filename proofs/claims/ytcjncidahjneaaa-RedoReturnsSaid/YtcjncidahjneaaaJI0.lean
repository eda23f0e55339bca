/-
  Laws that the claims of this seat use, of several texts in one: Fluid, Hd0, MapI, Rd1, Wp2, Rd2, Rd3, Rd4. No condition of their own.
-/
import Derived.Maps.OwnOps
import Derived.Maps.Views
import Derived.Test.YtcjncidahjneaaaJH0

namespace Go.Proofs.Ytcjncidahjneaaa
open Go.RowKit
/-- Each operation but those of F waits for number i. -/
def addG (F : List Nat) (i : Nat) : Nat → List Oper → List Oper
  | _, [] => []
  | k, o :: l => (if F.contains k then o else ⟨o.dst, o.op, o.type, o.pos, (o.after.toList ++ [(⟨i, .data⟩ : Edge)]).toArray, o.guard⟩) :: addG F i (k + 1) l
def isMove (o : Oper) : Bool := (match o.op with | .move _ => true | _ => false) && o.after.isEmpty && o.guard.isNone && o.dst.isSome
def fluidOK (F : List Nat) : List Nat → List Oper → Bool
  | [], _ => true
  | i :: r, l => F.contains i && (match l[i]? with | some o => isMove o | none => false) && Region.noSelect l.toArray && Region.free .any l.toArray (Array.replicate l.length false) i && fluidOK F r (addG F i 0 l)
def addGs (F : List Nat) : List Nat → List Oper → List Oper
  | [], l => l
  | i :: r, l => addGs F r (addG F i 0 l)
section
variable {P : Program} {Q : Exit → Act → World → Prop} {F : List Nat} {i : Nat}
theorem addG_len : ∀ (k : Nat) (l : List Oper), (addG F i k l).length = l.length
  | _, [] => rfl
  | k, o :: l => by simp only [addG, List.length_cons, addG_len (k + 1) l]
theorem addG_at : ∀ (k : Nat) (l : List Oper) (j : Nat), (addG F i k l)[j]? = (l[j]?).map fun o => if F.contains (k + j) then o else ⟨o.dst, o.op, o.type, o.pos, (o.after.toList ++ [(⟨i, .data⟩ : Edge)]).toArray, o.guard⟩
  | k, [], j => by simp [addG]
  | k, o :: l, 0 => by simp [addG]
  | k, o :: l, j + 1 => by
    simp only [addG, List.getElem?_cons_succ]
    rw [addG_at (k + 1) l j, show k + 1 + j = k + (j + 1) by omega]
theorem addG_yielded (l : List Oper) (tmps : Array Value) (j : Nat) : yielded (addG F i 0 l).toArray tmps j = yielded l.toArray tmps j := by
  unfold yielded
  rw [List.getElem?_toArray, List.getElem?_toArray, addG_at]
  cases l[j]? with
  | none => rfl
  | some o =>
    have e : (if F.contains (0 + j) = true then o else ⟨o.dst, o.op, o.type, o.pos, (o.after.toList ++ [(⟨i, .data⟩ : Edge)]).toArray, o.guard⟩ : Oper).dst = o.dst := by split <;> rfl
    simp only [Option.map_some, Option.bind_some, e]
theorem addG_ready {l : List Oper} {x : Array Bool} (hx : x.getD i false = true) {j : Nat} : j ∈ Region.ready .any (addG F i 0 l).toArray x ↔ j ∈ Region.ready .any l.toArray x := by
  rw [mem_ready, mem_ready]
  refine and_congr Iff.rfl ?_
  rw [List.getElem?_toArray, List.getElem?_toArray, addG_at]
  cases l[j]? with
  | none => simp
  | some o =>
    simp only [Option.map_some, Option.some.injEq, exists_eq_left']
    by_cases hF : F.contains (0 + j) = true
    · rw [if_pos hF]
    · rw [if_neg hF]
      constructor
      · intro h e he hb
        exact h e (by simp only [List.mem_toArray, List.mem_append]; exact .inl (by simpa using he)) hb
      · intro h e he hb
        simp only [List.mem_toArray, List.mem_append, List.mem_singleton] at he
        rcases he with he | rfl
        · exact h e (by simpa using he) hb
        · exact hx
theorem any_drop {l : List Oper} : ∀ (fuel : Nat) (x : Array Bool) (a : Act) (w : World), x.getD i false = true → wpAny P .any (addG F i 0 l).toArray Q fuel x a w → wpAny P .any l.toArray Q fuel x a w := by
  have hnil : ∀ (x : Array Bool), x.getD i false = true → (Region.ready .any (addG F i 0 l).toArray x = [] ↔ Region.ready .any l.toArray x = []) := by
    intro x hx
    rw [List.eq_nil_iff_forall_not_mem, List.eq_nil_iff_forall_not_mem]
    exact forall_congr' fun j => not_congr (addG_ready hx)
  intro fuel
  induction fuel with
  | zero => intro x a w hx h; exact ⟨(hnil x hx).1 h.1, h.2⟩
  | succ fuel ih =>
    intro x a w hx h
    refine ⟨fun h0 => h.1 ((hnil x hx).2 h0), fun j hj => ?_⟩
    obtain ⟨_, o, ho, _⟩ := mem_ready.1 hj
    have h1 := h.2 j ((addG_ready hx).2 hj)
    have hxi : (x.setIfInBounds j true).getD i false = true := by
      by_cases hji : j = i
      · subst hji
        simp only [Array.getD] at hx ⊢
        split at hx
        · next hlt => simp [hlt]
        · cases hx
      · rw [getD_set_ne false hji]; exact hx
    have hK : ∀ a' w', wpAny P .any (addG F i 0 l).toArray Q fuel (x.setIfInBounds j true) a' w' → wpAny P .any l.toArray Q fuel (x.setIfInBounds j true) a' w' := fun a' w' hh => ih _ a' w' hxi hh
    have ho2 : l[j]? = some o := by simpa using ho
    unfold wpOp at h1 ⊢
    rw [List.getElem?_toArray, addG_at, ho2] at h1
    rw [List.getElem?_toArray, ho2]
    simp only [Option.map_some] at h1 ⊢
    have hw : ∀ o' : Oper, o'.guard = o.guard → Region.wanted o' (yielded (addG F i 0 l).toArray a.tmps) = Region.wanted o (yielded l.toArray a.tmps) := by
      intro o' hg
      unfold Region.wanted
      rw [hg]
      cases o.guard with
      | none => rfl
      | some g => simp only [addG_yielded]
    have key : ∀ o' : Oper, o'.op = o.op → o'.dst = o.dst → o'.guard = o.guard → (Oper.wp P o' a w (wpAny P .any (addG F i 0 l).toArray Q fuel (x.setIfInBounds j true)) Q ↔ Oper.wp P o a w (wpAny P .any (addG F i 0 l).toArray Q fuel (x.setIfInBounds j true)) Q) ∧ (o'.asks P a w ↔ o.asks P a w) →
        (if Region.wanted o' (yielded (addG F i 0 l).toArray a.tmps) = true then Oper.wp P o' a w (wpAny P .any (addG F i 0 l).toArray Q fuel (x.setIfInBounds j true)) Q ∨ (o'.asks P a w ∧ LetsOut Q) else wpAny P .any (addG F i 0 l).toArray Q fuel (x.setIfInBounds j true) (a.put o'.dst undef) w) →
        (if Region.wanted o (yielded l.toArray a.tmps) = true then Oper.wp P o a w (wpAny P .any l.toArray Q fuel (x.setIfInBounds j true)) Q ∨ (o.asks P a w ∧ LetsOut Q) else wpAny P .any l.toArray Q fuel (x.setIfInBounds j true) (a.put o.dst undef) w) := by
      intro o' _ hd hg hiff hh
      rw [hw o' hg] at hh
      split
      · next hwt =>
        rw [if_pos hwt] at hh
        exact hh.imp (fun h2 => Oper.wp_mono hK (hiff.1.1 h2)) (fun h2 => ⟨hiff.2.1 h2.1, h2.2⟩)
      · next hwt =>
        rw [if_neg hwt, hd] at hh
        exact hK _ _ hh
    by_cases hF : F.contains (0 + j) = true
    · rw [if_pos hF] at h1
      exact key o rfl rfl rfl ⟨Iff.rfl, Iff.rfl⟩ h1
    · rw [if_neg hF] at h1
      exact key _ rfl rfl rfl ⟨Iff.rfl, Iff.rfl⟩ h1
theorem any_one {l : List Oper} {o : Oper} (ho : l[i]? = some o) (hm : isMove o = true) (hF : F.contains i = true) (hs : Region.noSelect l.toArray = true) (hf : Region.free .any l.toArray (Array.replicate l.length false) i = true) (hQ : ∀ (d : Nat) v c a w, Q (.panic c) (a.put (some d) v) w → Q (.panic c) a w)
    {fuel : Nat} {a : Act} {w : World} (h : wpAny P .any (addG F i 0 l).toArray Q fuel (Array.replicate l.length false) a w) : wpAny P .any l.toArray Q fuel (Array.replicate l.length false) a w := by
  have hil := (List.getElem?_eq_some_iff.1 ho).1
  simp only [isMove, Bool.and_eq_true] at hm
  obtain ⟨⟨⟨hmo, hma⟩, hmg⟩, hmd⟩ := hm
  obtain ⟨d, hd⟩ := Option.isSome_iff_exists.1 hmd
  have hg : o.guard = none := by simpa using hmg
  have hae : o.after = #[] := by simpa using hma
  have hr0 : ∀ {L : List Oper}, L[i]? = some o → i ∈ Region.ready .any L.toArray (Array.replicate l.length false) := fun {L} hL => by
    refine mem_ready.2 ⟨by simp [Array.getD, hil], o, by simpa using hL, fun e he => ?_⟩
    rw [hae] at he
    simp at he
  have hL2 : (addG F i 0 l)[i]? = some o := by rw [addG_at, ho, Option.map_some, Nat.zero_add, if_pos hF]
  obtain ⟨x, hx⟩ : ∃ x, o.op = .move x := by
    cases hop : o.op <;> rw [hop] at hmo <;> first | exact ⟨_, rfl⟩ | (cases hmo)
  have hrun : ∀ w, (execOp a.eval o).run P w = .ok (.value (a.eval x)) w := fun w => by unfold execOp; rw [hx]; rfl
  have hwt : ∀ y, Region.wanted o y = true := fun y => by unfold Region.wanted; rw [hg]
  cases fuel with
  | zero =>
    have := hr0 hL2
    rw [h.1] at this; cases this
  | succ fuel =>
    have h1 := h.2 i (hr0 hL2)
    unfold wpOp at h1
    rw [List.getElem?_toArray, hL2] at h1
    simp only at h1
    rw [if_pos (hwt _)] at h1
    have h2 : wpAny P .any (addG F i 0 l).toArray Q fuel ((Array.replicate l.length false).setIfInBounds i true) (a.put o.dst (a.eval x)) w := by
      rcases h1 with h1 | ⟨h1, _⟩
      · unfold Oper.wp at h1
        rw [hrun] at h1
        exact h1
      · exfalso
        have h3 := h1.1
        have h4 : ((execOp a.eval o).runT P w #[]).2 = #[] := by
          unfold execOp
          rw [hx]
          rfl
        rw [h4] at h3
        simp at h3
    have h3 := any_drop fuel _ _ w (by simp [Array.getD, hil]) h2
    exact wpAny_take (by simpa using ho) hs hf (by simpa using hr0 ho) (fun c a w => by rw [hd]; exact hQ _ _ c a w) (.inl ⟨hwt _, hrun⟩) h3
theorem any_fluid : ∀ (R : List Nat) (l : List Oper), fluidOK F R l = true → (∀ (d : Nat) v c a w, Q (.panic c) (a.put (some d) v) w → Q (.panic c) a w) → ∀ {fuel : Nat} {a : Act} {w : World},
    wpAny P .any (addGs F R l).toArray Q fuel (Array.replicate l.length false) a w → wpAny P .any l.toArray Q fuel (Array.replicate l.length false) a w
  | [], l, _, _, _, _, _, h => h
  | i :: R, l, hok, hQ, fuel, a, w, h => by
    simp only [fluidOK, Bool.and_eq_true] at hok
    obtain ⟨⟨⟨⟨h1, h2⟩, h3⟩, h4⟩, h5⟩ := hok
    split at h2
    · next o ho =>
      refine any_one ho h2 h1 h3 h4 hQ ?_
      have h6 := any_fluid R (addG F i 0 l) h5 hQ (fuel := fuel) (a := a) (w := w) (by rw [addG_len]; exact h)
      rw [addG_len] at h6
      exact h6
    · cases h2
/-- **The region, some copies first (F), then one walk in an order of one's own.** -/
theorem region_fluid_lit {id : Nat} {a : Act} {w : World} {l : List Oper} (F : List Nat) (s : List Nat) (n : Nat) {l2 : List Oper} (hm : P.follows .mixedOrders = true) (hF : fluidOK F F l = true) (hlen : (addGs F F l).length = l.length) (hs : permOK s (addGs F F l) = true) (hl : permL s (addGs F F l) = l2) (hB : frontOK .any (l2.take n) (l2.drop n) = true)
    (hQ : ∀ (d : Nat) v c a w, Q (.panic c) (a.put (some d) v) w → Q (.panic c) a w)
    (h : wpM P .any l2.toArray w (fun a' F => ∀ b w', Cls w w' → (∀ x ∈ F, w.heap.size ≤ b x.1 ∧ blk w' (b x.1) = some (.cells x.2.1 x.2.2 (0, 0))) → (∀ x ∈ F, ∀ y ∈ F, x.1 ≠ y.1 → b x.1 ≠ b y.1) → wpList P l2.toArray Q (l2.drop n) (a' b) w') (l2.take n) 0 (fun _ => a) []) :
    (Code.region id l.toArray true).wp P Q a w := by
  subst hl
  have h1 := any_mono hB h
  rw [perm_len hs] at h1
  refine wp_region_any hm ?_
  rw [List.size_toArray]
  refine any_fluid F l hF hQ ?_
  rw [← hlen]
  refine any_perm hs _ _ _ a _ (by simp) (by simp) (fun i hi => ?_) h1
  have := (perm_1 hs hi).1
  simp [Array.getD, hi, this]
end
end Go.Proofs.Ytcjncidahjneaaa

namespace Go.Proofs.Ytcjncidahjneaaa
open Go.ChangeShapes Go.WideShapes Go.ChangeAt Go.RowKit
attribute [local irreducible] wpList wpListIn Oper.quietAt wpM
attribute [local irreducible] tagL
/-- A head's cells: its count, then bytes. -/
def hdV (n : Int) (B : List UInt8) : Array Value := (.int .i64 n :: B.map bv).toArray
theorem hdV_size (n : Int) (B : List UInt8) : csz (hdV n B) = B.length + 1 := by unfold hdV csz; simp
theorem hdV_ones (n : Int) (B : List UInt8) : ones (hdV n B) = true := by
  unfold hdV
  refine ones_lit ?_
  rw [List.all_cons, List.all_map]
  simp [Value.oneCell', bv]
theorem hd_cut (n : Int) {B : List UInt8} {o m : Nat} (_ho : o + m ≤ B.length) : cut (hdV n B) (1 + o) m = bvs ((B.drop o).take m) := by
  unfold cut hdV
  rw [if_neg (by omega)]
  apply Array.ext'
  unfold bvs
  simp [List.extract_eq_take_drop, List.map_take, List.map_drop]
  rw [show 1 + o = o + 1 by omega, List.drop_succ_cons]
theorem hd_bytes {w : World} {b : Nat} {n : Int} {B : List UInt8} {t : TypeId} {fr : Nat × Nat} (hb : blk w b = some (.cells (hdV n B) t fr)) (o m c : Nat) (ho : o + m ≤ B.length) (hc : m ≤ c) : BytesAt w (.slice (some ⟨b, 1 + o, none⟩) m c) ((B.drop o).take m) := by
  refine bytesAt_mid (pre := .int .i64 n :: (B.take o).map bv) (post := (B.drop (o + m)).map bv) hb ?_ (by rw [List.length_cons, List.length_map, List.length_take]; omega) (by rw [List.length_take, List.length_drop]; omega) hc
  have e : B.take o ++ ((B.drop o).take m ++ B.drop (o + m)) = B := by rw [← List.drop_drop, List.take_append_drop, List.take_append_drop]
  unfold hdV
  show _ :: B.map bv = _
  rw [List.cons_append, ← List.map_append, ← List.map_append, e]
end Go.Proofs.Ytcjncidahjneaaa

namespace Go.Proofs.Ytcjncidahjneaaa
open Go.ChangeShapes Go.WideShapes Go.ChangeAt Go.RowKit
attribute [local irreducible] wpList wpListIn Oper.quietAt wpM
open Go.Maps
abbrev mapAt (w : World) (B n : Nat) (D : DataW Unit) : Prop := w.ownsMap Try.prog 3 (plainElem Try.prog 3) B n D
theorem map_kept {w w' : World} {B n : Nat} {D : DataW Unit} (h : mapAt w B n D) (hb : w'.heap[B]? = w.heap[B]?) : mapAt w' B n D := by
  obtain ⟨es, clock, h1, h2⟩ := h
  exact ⟨es, clock, hb.trans h1, h2⟩
theorem map_obj {w : World} {B n : Nat} {D : DataW Unit} (h : mapAt w B n D) : B < w.heap.size ∧ ∀ cs t fr, w.heap[B]? ≠ some (.cells cs t fr) := by
  obtain ⟨es, clock, h1, h2⟩ := h
  exact ⟨(Array.getElem?_eq_some_iff.1 h1).1, fun cs t fr e => by rw [h1] at e; cases e⟩
def StM (w0 : World) (B n : Nat) (D : DataW Unit) (w : World) (L : List Blk) : Prop := St w0 w L ∧ mapAt w B n D ∧ w0.heap.size ≤ B
theorem own_stM {w0 : World} {B n : Nat} {D : DataW Unit} : Own w0.heap.size (StM w0 B n D) where
  blk := fun i _ _ _ h hi => h.1.blk i hi
  call := fun h hb => ⟨h.1.call hb, map_kept h.2.1 (hb.block B (map_obj h.2.1).1), h.2.2⟩
  alloc := fun cs t h => ⟨h.1.alloc cs t, map_kept h.2.1 (Below.heap_alloc _ _ _ (map_obj h.2.1).1), h.2.2⟩
  setRow := fun {w} {L} i {b} {cs} {t} cs' h hi => ⟨h.1.setRow i hi cs', map_kept h.2.1 (setRow_other w b B cs' (fun e => by
    have h1 : w.heap[b]? = some (.cells cs t (0, 0)) := h.1.blk i hi
    exact (map_obj h.2.1).2 _ _ _ (e ▸ h1))), h.2.2⟩
  size := fun h => h.1.1.size
  add := fun h hB hn hb => ⟨h.1.add hB hn hb, h.2⟩
  nodup := fun h => h.1.2.2
  sub := fun h hx hn => ⟨⟨h.1.1, fun x hm => h.1.2.1 x (hx x hm), hn⟩, h.2⟩
theorem StM.far {w0 wr : World} {B n : Nat} {D : DataW Unit} {L : List Blk} (h : StM w0 B n D wr L) {b : Nat} {cs : Array Value} {t : TypeId} {fr : Nat × Nat} (hb : Go.Proofs.Ytcjncidahjneaaa.blk w0 b = some (.cells cs t fr)) : Go.Proofs.Ytcjncidahjneaaa.blk wr b = some (.cells cs t fr) ∧ (∀ o, wr.cell? ⟨b, o, none⟩ = cs[o]?) ∧ b < w0.heap.size ∧ b < wr.heap.size ∧ ¬ b = wr.heap.size := h.1.far hb
theorem zeroInt (w : World) : (zeroValue 3).run Try.prog w = .ok (.int .i64 0) w := by kernel_rfl
theorem i64_wf {a : Int} (h : -9223372036854775808 ≤ a ∧ a ≤ 9223372036854775807) : (Lit.int .i64 a).wf = true := by
  have q1 : IntKind.i64.min = -9223372036854775808 := rfl
  have q2 : IntKind.i64.max = 9223372036854775807 := rfl
  simp only [Lit.wf, Bool.and_eq_true, decide_eq_true_eq]
  omega
variable {ops : Array Oper} {Q : Exit → Act → World → Prop} {o : Oper} {rest : List Oper} {a : Act} {w w0 : World} {L : List Blk}
/-- make(map[int]int). -/
theorem s_makeMap {t : TypeId} (hS : St w0 w L) (hw : Region.wanted o (yielded ops a.tmps) = true) (hop : o.op = .makeMap t none) (hk : ∀ B w', StM w0 B 0 (.map []) w' L → wpList Try.prog ops Q rest (a.put o.dst (.map (some B))) w') : wpList Try.prog ops Q (o :: rest) a w := by
  refine Aa.go hw (by unfold Bp; rw [hop]) (v := .map (some w.heap.size)) (w' := w.alloc (.map #[] 0)) ?_ (hk _ _ ⟨hS.call ((Below.refl _ _).alloc (Nat.le_refl _) _), World.ownsMap_made _ _ _ _, hS.1.size⟩)
  unfold execOp; rw [hop]
  rfl
theorem s_lookup {m x : Operand} {t : TypeId} {B n : Nat} {D : DataW Unit} {k : Int} (hS : StM w0 B n D w L) (hg : o.guard = none) (hop : o.op = .lookup t m x false) (ht : Try.prog.underlying t = some (.map 3 3)) (hm : evO a m = some (.map (some B))) (hx : evO a x = some (.int .i64 k)) (hk1 : -9223372036854775808 ≤ k ∧ k ≤ 9223372036854775807) {c : Int} (hc : D.atKey (.int .i64 k) (.lit (.int .i64 0)) = .lit (.int .i64 c)) (hk : wpList Try.prog ops Q rest (a.put o.dst (.int .i64 c)) w) : wpList Try.prog ops Q (o :: rest) a w := by
  refine wpList_lookup_own_int w hg m x t hop 3 3 .i64 (int_keyed Try.underlying3) ht Try.underlying3 (zeroInt w) B n D (Bb hm) hS.2.1 _ _ (Bb hx) (keyOf_int_mk Try.underlying3 (i64_wf hk1)) ?_
  intro c' h1 _
  rw [hc] at h1
  simp only [DataW.lit.injEq, Lit.int.injEq, true_and] at h1
  subst h1
  exact hk
theorem s_update {m x v : Operand} {t : TypeId} {B n : Nat} {D : DataW Unit} {k z : Int} (hS : StM w0 B n D w L) (hg : o.guard = none) (hop : o.op = .mapUpdate t m x v) (ht : Try.prog.underlying t = some (.map 3 3)) (hn : n < 1000000) (hm : evO a m = some (.map (some B))) (hx : evO a x = some (.int .i64 k)) (hv : evO a v = some (.int .i64 z)) (hk1 : -9223372036854775808 ≤ k ∧ k ≤ 9223372036854775807) (hz : -9223372036854775808 ≤ z ∧ z ≤ 9223372036854775807)
    (hk : ∀ w', StM w0 B (n + 1) (D.put (.int .i64 k) (.lit (.int .i64 z))) w' L → wpList Try.prog ops Q rest (a.put o.dst undef) w') : wpList Try.prog ops Q (o :: rest) a w := by
  refine wpList_mapUpdate_own w hg m x v t hop 3 3 (int_keyed Try.underlying3) ht _ B n D (Bb hm) hS.2.1 (by unfold maxLen; omega) _ _ _ (Bb hx) (Bb hv) (keyOf_int_mk Try.underlying3 (i64_wf hk1)) _ [] (plainElem_int Try.underlying3 (i64_wf hz)) ?_
  intro w' h1 h2
  refine hk w' ⟨?_, h1, hS.2.2⟩
  obtain ⟨hb, hl, hnd⟩ := hS.1
  have hbelow : Below w0.heap.size w w' := ⟨h2.os, h2.tape, h2.output, h2.size, fun k hk => h2.block k (Nat.lt_of_lt_of_le hk hb.size) (fun e => by cases e; exact Nat.lt_irrefl _ (Nat.lt_of_lt_of_le hk hS.2.2))⟩
  refine ⟨hb.trans hbelow, fun y hy => ⟨(hl y hy).1, ?_⟩, hnd⟩
  have h3 := (hl y hy).2
  have h4 : y.1 < w.heap.size := blk_lt h3
  refine (h2.block y.1 h4 (fun e => ?_)).trans h3
  cases e
  exact (map_obj hS.2.1).2 _ _ _ h3
end Go.Proofs.Ytcjncidahjneaaa

namespace Go.Proofs.Ytcjncidahjneaaa
open Go.ChangeShapes Go.WideShapes Go.ChangeAt Go.RowKit
attribute [local irreducible] wpList wpListIn Oper.quietAt wpM
open Go.Maps
/-- A put: its number, its sector. -/
abbrev Pt := Int × List UInt8
def putC (x : Pt) : List Value := .int .i64 x.1 :: x.2.map bv
def putsC (l : List Pt) : List Value := l.flatMap putC
def okP (l : List Pt) : Prop := ∀ x ∈ l, x.2.length = 128 ∧ (-9223372036854775808 ≤ x.1 ∧ x.1 ≤ 9223372036854775807)
theorem putC_len {x : Pt} (h : x.2.length = 128) : (putC x).length = 129 := by unfold putC; rw [List.length_cons, List.length_map, h]
theorem putsC_len : ∀ {l : List Pt}, okP l → (putsC l).length = l.length * 129
  | [], _ => rfl
  | x :: l, h => by
    unfold putsC
    rw [List.flatMap_cons, List.length_append, putC_len (h x (List.mem_cons_self ..)).1]
    have := putsC_len (l := l) (fun y hy => h y (List.mem_cons_of_mem _ hy))
    unfold putsC at this
    rw [this, List.length_cons]
    omega
theorem putsC_at : ∀ {l : List Pt}, okP l → ∀ {k : Nat} {x : Pt}, l[k]? = some x → ((putsC l).drop (k * 129)).take 129 = putC x
  | [], _, k, x, h => by simp at h
  | y :: l, h, 0, x, hx => by
    simp at hx; subst hx
    unfold putsC
    rw [List.flatMap_cons, Nat.zero_mul, List.drop_zero, List.take_left' (putC_len (h y (List.mem_cons_self ..)).1)]
  | y :: l, h, k + 1, x, hx => by
    have ih := putsC_at (l := l) (fun z hz => h z (List.mem_cons_of_mem _ hz)) (k := k) (x := x) (by simpa using hx)
    unfold putsC at ih ⊢
    rw [List.flatMap_cons, List.drop_append, List.drop_of_length_le (by rw [putC_len (h y (List.mem_cons_self ..)).1]; omega), List.nil_append, putC_len (h y (List.mem_cons_self ..)).1, show (k + 1) * 129 - 129 = k * 129 by omega]
    exact ih
/-- A slice of puts. -/
def PutsAt (w : World) (v : Value) (l : List Pt) : Prop := okP l ∧ ∃ p c, v = .slice p l.length c ∧ l.length ≤ c ∧ (p = none → c = 0) ∧ (l ≠ [] → ∃ b o cs t fr, p = some ⟨b, o, none⟩ ∧ blk w b = some (.cells cs t fr) ∧ ∀ j x, (putsC l)[j]? = some x → cs[o + j]? = some x)
theorem PutsAt.below {w w' : World} {v : Value} {l : List Pt} (h : PutsAt w v l) (hb : Below w.heap.size w w') : PutsAt w' v l := by
  obtain ⟨h0, p, c, h1, h2, h3, h4⟩ := h
  refine ⟨h0, p, c, h1, h2, h3, fun hne => ?_⟩
  obtain ⟨b, o, cs, t, fr, h5, h6, h7⟩ := h4 hne
  exact ⟨b, o, cs, t, fr, h5, (hb.block b (blk_lt h6)).trans h6, h7⟩
/-- One put of many, where it lies. -/
theorem put_cells {cs : Array Value} {o : Nat} {l : List Pt} (ho : okP l) (hc : ∀ j x, (putsC l)[j]? = some x → cs[o + j]? = some x) {k : Nat} {a : Int} {C : List UInt8} (hx : l[k]? = some (a, C)) :
    C.length = 128 ∧ o + k * 129 + 129 ≤ csz cs ∧ cut cs (o + k * 129) 129 = hdV a C ∧ cs[o + k * 129]? = some (.int .i64 a) ∧ (∀ i, i < 128 → cs[o + k * 129 + 1 + i]? = some (.int .u8 ((C.getD i 0).toNat : Int))) := by
  have hl : C.length = 128 := (ho _ (List.mem_of_getElem? hx)).1
  have hat := putsC_at ho hx
  have hg : ∀ i v, (putC (a, C))[i]? = some v → cs[o + k * 129 + i]? = some v := fun i v hv => by
    have h1 : ((putsC l).drop (k * 129))[i]? = some v := by
      rw [← hat, List.getElem?_take] at hv
      split at hv
      · exact hv
      · cases hv
    rw [List.getElem?_drop] at h1
    have := hc _ _ h1
    rwa [← Nat.add_assoc] at this
  have hlen := putC_len (x := (a, C)) hl
  have hsz : o + k * 129 + 129 ≤ cs.size := by
    have h1 : (putC (a, C))[128]? = some ((putC (a, C))[128]'(by omega)) := List.getElem?_eq_getElem (by omega)
    have := (Array.getElem?_eq_some_iff.1 (hg 128 _ h1)).1
    omega
  refine ⟨hl, by rw [csz_is]; exact hsz, ?_, ?_, fun i hi => ?_⟩
  · have hex : cs.extract (o + k * 129) (o + k * 129 + 129) = hdV a C := by
      apply Array.ext_getElem?
      intro i
      unfold hdV
      by_cases hi : i < 129
      · have h1 : (putC (a, C))[i]? = some ((putC (a, C))[i]'(by omega)) := List.getElem?_eq_getElem (by omega)
        have h2 := hg i _ h1
        rw [Array.getElem?_extract, if_pos (by omega), h2, List.getElem?_toArray, ← h1]
        rfl
      · rw [Array.getElem?_eq_none (by rw [Array.size_extract]; omega), Array.getElem?_eq_none (by rw [List.size_toArray]; unfold putC at hlen; dsimp only at hlen; omega)]
    unfold cut
    split
    · rename_i h
      have : cs.extract (o + k * 129) (o + k * 129 + 129) = cs := by
        rw [h.1]
        have h2 := h.2
        rw [csz_is] at h2
        rw [Nat.zero_add, ← h2, Array.extract_size]
      rw [← this]; exact hex
    · exact hex
  · have := hg 0 (.int .i64 a) rfl
    rwa [Nat.add_zero] at this
  · have h1 : (putC (a, C))[1 + i]? = some (.int .u8 ((C.getD i 0).toNat : Int)) := by
      show (Value.int .i64 a :: C.map bv)[1 + i]? = _
      rw [Nat.add_comm, List.getElem?_cons_succ, List.getElem?_map, List.getElem?_eq_getElem (by omega), List.getD_eq_getElem?_getD, List.getElem?_eq_getElem (by omega)]
      rfl
    have := hg (1 + i) _ h1
    rwa [← Nat.add_assoc] at this
/-- Are these an entry's puts? -/
def inR (a : Int) : Prop := 0 ≤ a ∧ a ≤ 65535
def soundP (l : List Pt) : Prop := (l.map (·.1)).Nodup ∧ (∀ x ∈ l, inR x.1) ∧ l.length ≤ 56
instance instRd1_1 : ZeroT Try.prog 70 (hdV 0 (zs 128)) := ⟨by kernel_rfl⟩
set_option maxRecDepth 100000 in
set_option maxHeartbeats 4000000 in
theorem rdSound_any (l : List Pt) (hl : l.length ≤ 1000) (v : Value) (w0 : World) (hv : PutsAt w0 v l) :
    Calls Try.prog 39 #[v] w0 fun e w' => ∃ b, e = .returned (.bool b) ∧ (b = true ↔ soundP l) ∧ Below w0.heap.size w0 w' := by
  obtain ⟨ho, p, c, rfl, hc, hp0, hcell⟩ := hv
  have hS := St.start w0
  obtain ⟨n, hn⟩ : ∃ n, l.length = n := ⟨_, rfl⟩
  rw [hn] at hl hc ⊢
  go_enter Try.func39, Try.ntmps39
  repeat' (first | ((with_reducible refine Ac ?_); first | ((first | refine Ai Aa ?_ | refine Al Aa ?_ | refine Af Aa ?_ | refine Av Aa Ab hS ?_ | refine Ba Aa Ab hS ?_ | refine Ag Aa ?_ | refine Ae Aa ?_ | refine Be Aa ?_ | refine Bd Aa ?_ | refine Ak Aa ?_ | refine Aj Aa ?_ | refine Aw Aa (fun hc => ?_) (fun hc => ?_) | refine Az Aa ?_ | refine Bk Aa ?_) <;> refine Ad ?_) | ((first | refine Ay Aa Ab hS ?_); clear hS; intro b w hS; refine Ad ?_) | ((first | refine Ap Aa Ab hS ?_ | refine Aq Aa Ab hS ?_); clear hS; intro w hS; refine Ad ?_)) | ((fail_if_success (with_reducible refine Ac ?_)); first | go_step | go_step3 | rw [Exit.noGoto_normal] | rw [Exit.noGoto_ret] | rw [Exit.noGoto_exit]))
  refine s_makeMap hS (by rfl) (by rfl) ?_
  clear hS
  intro B w hS
  refine Ad ?_
  repeat' (first | ((with_reducible refine Ac ?_); first | ((first | refine Ai Aa ?_ | refine Al Aa ?_ | refine Af Aa ?_ | refine Av Aa own_stM hS ?_ | refine Ba Aa own_stM hS ?_ | refine Ag Aa ?_ | refine Ae Aa ?_ | refine Be Aa ?_ | refine Bd Aa ?_ | refine Ak Aa ?_ | refine Aj Aa ?_ | refine Aw Aa (fun hc => ?_) (fun hc => ?_) | refine Az Aa ?_ | refine Bk Aa ?_) <;> refine Ad ?_) | ((first | refine Ay Aa own_stM hS ?_); clear hS; intro b w hS; refine Ad ?_) | ((first | refine Ap Aa own_stM hS ?_ | refine Aq Aa own_stM hS ?_); clear hS; intro w hS; refine Ad ?_)) | ((fail_if_success (with_reducible refine Ac ?_)); first | go_step | go_step3 | rw [Exit.noGoto_normal] | rw [Exit.noGoto_ret] | rw [Exit.noGoto_exit]))
  go_loopw [2, 5, 9] (fun u2 u5 u9 wr => ∃ (k : Nat) (D : DataW Unit), k ≤ n ∧ u9 = .int .i64 (k : Int) ∧ IsMap D ∧ ((l.take k).map (·.1)).Nodup ∧ (∀ x ∈ l.take k, inR x.1) ∧ (∀ a : Int, D.atKey (.int .i64 a) (.lit (.int .i64 0)) = .lit (.int .i64 (if a ∈ (l.take k).map (·.1) then 1 else 0))) ∧ StM w0 B k D wr []) (fun _ _ u9 _ => n - (intOf u9).toNat)
  case atStart => exact ⟨0, _, by omega, rfl, ⟨[], rfl⟩, by simp, by simp, fun a => by rfl, hS⟩
  case round =>
    clear hS
    obtain ⟨k, D, hk, rfl, hD, hnd, hin, hat, hS⟩ := hrel
    by_cases hlt : k < n
    · obtain ⟨⟨a, C⟩, hx⟩ : ∃ x, l[k]? = some x := ⟨_, List.getElem?_eq_getElem (by omega)⟩
      obtain ⟨b, o, cs, ty, fr, rfl, hb, hcc⟩ := hcell (by intro e; rw [e] at hn; simp at hn; omega)
      obtain ⟨lC, c1, c2, c3, c4⟩ := put_cells ho hcc hx
      have hr : -9223372036854775808 ≤ a ∧ a ≤ 9223372036854775807 := (ho _ (List.mem_of_getElem? hx)).2
      have htk : l.take (k + 1) = l.take k ++ [(a, C)] := by rw [List.take_add_one, hx]; rfl
      have s1 : csz (hdV a C) = 129 := by rw [hdV_size, lC]
      have s2 : csz (hdV 0 (zs 128)) = 129 := by rw [hdV_size, zs_len]
      have hka := hat a
      have hnew : ∀ (z : Int) (a' : Int), (D.put (.int .i64 a) (.lit (.int .i64 z))).atKey (.int .i64 a') (.lit (.int .i64 0)) = if a' = a then .lit (.int .i64 z) else .lit (.int .i64 (if a' ∈ (l.take k).map (·.1) then 1 else 0)) := fun z a' => by
        by_cases he : a' = a
        · subst he
          rw [if_pos rfl]
          exact atKey_put_same hD (by trivial) _ _
        · rw [if_neg he, atKey_put_other (fun e => he (by cases e; rfl)), hat a']
      by_cases hmem : a ∈ (l.take k).map (·.1)
      · rw [if_pos hmem] at hka
        have hk2 := (hnew 2 a).trans (if_pos rfl)
        have hns : ¬ soundP l := fun h => by
          have h1 := h.1
          rw [← List.take_append_drop (k + 1) l, htk, List.map_append, List.map_append] at h1
          have h2 := (List.nodup_append.1 (List.nodup_append.1 h1).1).2.2
          exact h2 a hmem a (by simp) rfl
        repeat' (first | ((with_reducible refine Ac ?_); first | ((first | refine Ai Aa ?_ | refine Al Aa ?_ | refine Af Aa ?_ | refine Av Aa own_stM hS ?_ (hv := by first | rfl | exact Bi | (rw [Array.getElem?_toList]; first | exact c3 | exact c2)) | refine Bs Aa (by first | exact ((hS).far hb).1) ?_ (hv := by first | rfl | exact Bi | (rw [Array.getElem?_toList]; first | exact c3 | exact c2)) | refine Ba Aa own_stM hS ?_ (hv := by first | exact Bo _ _ (by (try simp only [Bn, Bg, Bm, List.length_append, List.length_set, zs_len, List.length_take, List.length_drop, List.length_cons, List.length_nil]); first | done | rfl | omega) | (first | exact c3 | exact c2) | rfl) | refine Da Aa (by first | exact ((hS).far hb).1) ?_ (hv := by first | exact Bo _ _ (by (try simp only [Bn, Bg, Bm, List.length_append, List.length_set, zs_len, List.length_take, List.length_drop, List.length_cons, List.length_nil]); first | done | rfl | omega) | (first | exact c3 | exact c2) | rfl) | refine Ag Aa ?_ | refine Ae Aa ?_ | refine Be Aa ?_ | refine Bd Aa ?_ | refine Ak Aa ?_ | refine Aj Aa ?_ | refine Aw Aa (fun hc => ?_) (fun hc => ?_) | refine Az Aa ?_ | refine Bk Aa ?_) <;> refine Ad ?_) | ((first | refine Ay Aa own_stM hS ?_); clear hS; intro b w hS; refine Ad ?_) | ((first | refine Ap Aa own_stM hS ?_ | refine Aq Aa own_stM hS ?_); clear hS; intro w hS; refine Ad ?_) | (refine Ap Aa own_stM hS ?_ (hv := hdV_ones _ _); clear hS; intro w hS; refine Ad ?_)) | ((fail_if_success (with_reducible refine Ac ?_)); first | go_step | go_step3 | rw [Exit.noGoto_normal] | rw [Exit.noGoto_ret] | rw [Exit.noGoto_exit]))
        refine s_lookup hS (by rfl) (by rfl) (by exact Try.underlying113) (by rfl) (by rfl) hr hka ?_
        refine Ad ?_
        repeat' (first | ((with_reducible refine Ac ?_); first | ((first | refine Ai Aa ?_ | refine Al Aa ?_ | refine Af Aa ?_ | refine Av Aa own_stM hS ?_ | refine Ba Aa own_stM hS ?_ | refine Ag Aa ?_ | refine Ae Aa ?_ | refine Be Aa ?_ | refine Bd Aa ?_ | refine Ak Aa ?_ | refine Aj Aa ?_ | refine Aw Aa (fun hc => ?_) (fun hc => ?_) | refine Az Aa ?_ | refine Bk Aa ?_) <;> refine Ad ?_) | ((first | refine Ay Aa own_stM hS ?_); clear hS; intro b w hS; refine Ad ?_) | ((first | refine Ap Aa own_stM hS ?_ | refine Aq Aa own_stM hS ?_); clear hS; intro w hS; refine Ad ?_)) | ((fail_if_success (with_reducible refine Ac ?_)); first | go_step | go_step3 | rw [Exit.noGoto_normal] | rw [Exit.noGoto_ret] | rw [Exit.noGoto_exit]))
        refine s_update hS (by rfl) (by rfl) (by exact Try.underlying113) (by omega) (by rfl) (by rfl) (by rfl) hr (by omega) ?_
        clear hS
        intro w hS
        refine Ad ?_
        repeat' (first | ((with_reducible refine Ac ?_); first | ((first | refine Ai Aa ?_ | refine Al Aa ?_ | refine Af Aa ?_ | refine Av Aa own_stM hS ?_ | refine Ba Aa own_stM hS ?_ | refine Ag Aa ?_ | refine Ae Aa ?_ | refine Be Aa ?_ | refine Bd Aa ?_ | refine Ak Aa ?_ | refine Aj Aa ?_ | refine Aw Aa (fun hc => ?_) (fun hc => ?_) | refine Az Aa ?_ | refine Bk Aa ?_) <;> refine Ad ?_) | ((first | refine Ay Aa own_stM hS ?_); clear hS; intro b w hS; refine Ad ?_) | ((first | refine Ap Aa own_stM hS ?_ | refine Aq Aa own_stM hS ?_); clear hS; intro w hS; refine Ad ?_)) | ((fail_if_success (with_reducible refine Ac ?_)); first | go_step | go_step3 | rw [Exit.noGoto_normal] | rw [Exit.noGoto_ret] | rw [Exit.noGoto_exit]))
        refine s_lookup hS (by rfl) (by rfl) (by exact Try.underlying113) (by rfl) (by rfl) hr hk2 ?_
        refine Ad ?_
        clear hnew hat hka hk2 hnd hin
        repeat' (first | ((with_reducible refine Ac ?_); first | ((first | refine Ai Aa ?_ | refine Al Aa ?_ | refine Af Aa ?_ | refine Av Aa own_stM hS ?_ | refine Ba Aa own_stM hS ?_ | refine Ag Aa ?_ | refine Ae Aa ?_ | refine Be Aa ?_ | refine Bd Aa ?_ | refine Ak Aa ?_ | refine Aj Aa ?_ | refine Aw Aa (fun hc => ?_) (fun hc => ?_) | refine Az Aa ?_ | refine Bk Aa ?_) <;> refine Ad ?_) | ((first | refine Ay Aa own_stM hS ?_); clear hS; intro b w hS; refine Ad ?_) | ((first | refine Ap Aa own_stM hS ?_ | refine Aq Aa own_stM hS ?_); clear hS; intro w hS; refine Ad ?_)) | ((fail_if_success (with_reducible refine Ac ?_)); first | go_step | go_step3 | rw [Exit.noGoto_normal] | rw [Exit.noGoto_ret] | rw [Exit.noGoto_exit]))
        go_ret
        exact ⟨false, rfl, by simp [hns], hS.1.below⟩
      · rw [if_neg hmem] at hka
        have hk2 := (hnew 1 a).trans (if_pos rfl)
        have hnd' : ((l.take (k + 1)).map (·.1)).Nodup := by
          rw [htk, List.map_append, List.nodup_append]
          exact ⟨hnd, by simp, fun x hxm y hy => by simp at hy; subst hy; exact fun e => hmem (e ▸ hxm)⟩
        have hat' : ∀ a' : Int, (D.put (.int .i64 a) (.lit (.int .i64 1))).atKey (.int .i64 a') (.lit (.int .i64 0)) = .lit (.int .i64 (if a' ∈ (l.take (k + 1)).map (·.1) then 1 else 0)) := fun a' => by
          rw [hnew 1 a', htk, List.map_append]
          by_cases he : a' = a
          · subst he; simp
          · rw [if_neg he]
            simp [he]
        have hns : ¬ inR a → ¬ soundP l := fun h h2 => h (h2.2.1 _ (List.mem_of_getElem? hx))
        by_cases hlow : a < 0
        · have hns2 := hns (fun h => absurd h.1 (by omega))
          repeat' (first | ((with_reducible refine Ac ?_); first | ((first | refine Ai Aa ?_ | refine Al Aa ?_ | refine Af Aa ?_ | refine Av Aa own_stM hS ?_ (hv := by first | rfl | exact Bi | (rw [Array.getElem?_toList]; first | exact c3 | exact c2)) | refine Bs Aa (by first | exact ((hS).far hb).1) ?_ (hv := by first | rfl | exact Bi | (rw [Array.getElem?_toList]; first | exact c3 | exact c2)) | refine Ba Aa own_stM hS ?_ (hv := by first | exact Bo _ _ (by (try simp only [Bn, Bg, Bm, List.length_append, List.length_set, zs_len, List.length_take, List.length_drop, List.length_cons, List.length_nil]); first | done | rfl | omega) | (first | exact c3 | exact c2) | rfl) | refine Da Aa (by first | exact ((hS).far hb).1) ?_ (hv := by first | exact Bo _ _ (by (try simp only [Bn, Bg, Bm, List.length_append, List.length_set, zs_len, List.length_take, List.length_drop, List.length_cons, List.length_nil]); first | done | rfl | omega) | (first | exact c3 | exact c2) | rfl) | refine Ag Aa ?_ | refine Ae Aa ?_ | refine Be Aa ?_ | refine Bd Aa ?_ | refine Ak Aa ?_ | refine Aj Aa ?_ | refine Aw Aa (fun hc => ?_) (fun hc => ?_) | refine Az Aa ?_ | refine Bk Aa ?_) <;> refine Ad ?_) | ((first | refine Ay Aa own_stM hS ?_); clear hS; intro b w hS; refine Ad ?_) | ((first | refine Ap Aa own_stM hS ?_ | refine Aq Aa own_stM hS ?_); clear hS; intro w hS; refine Ad ?_) | (refine Ap Aa own_stM hS ?_ (hv := hdV_ones _ _); clear hS; intro w hS; refine Ad ?_)) | ((fail_if_success (with_reducible refine Ac ?_)); first | go_step | go_step3 | rw [Exit.noGoto_normal] | rw [Exit.noGoto_ret] | rw [Exit.noGoto_exit]))
          refine s_lookup hS (by rfl) (by rfl) (by exact Try.underlying113) (by rfl) (by rfl) hr hka ?_
          refine Ad ?_
          repeat' (first | ((with_reducible refine Ac ?_); first | ((first | refine Ai Aa ?_ | refine Al Aa ?_ | refine Af Aa ?_ | refine Av Aa own_stM hS ?_ | refine Ba Aa own_stM hS ?_ | refine Ag Aa ?_ | refine Ae Aa ?_ | refine Be Aa ?_ | refine Bd Aa ?_ | refine Ak Aa ?_ | refine Aj Aa ?_ | refine Aw Aa (fun hc => ?_) (fun hc => ?_) | refine Az Aa ?_ | refine Bk Aa ?_) <;> refine Ad ?_) | ((first | refine Ay Aa own_stM hS ?_); clear hS; intro b w hS; refine Ad ?_) | ((first | refine Ap Aa own_stM hS ?_ | refine Aq Aa own_stM hS ?_); clear hS; intro w hS; refine Ad ?_)) | ((fail_if_success (with_reducible refine Ac ?_)); first | go_step | go_step3 | rw [Exit.noGoto_normal] | rw [Exit.noGoto_ret] | rw [Exit.noGoto_exit]))
          refine s_update hS (by rfl) (by rfl) (by exact Try.underlying113) (by omega) (by rfl) (by rfl) (by rfl) hr (by omega) ?_
          clear hS
          intro w hS
          refine Ad ?_
          repeat' (first | ((with_reducible refine Ac ?_); first | ((first | refine Ai Aa ?_ | refine Al Aa ?_ | refine Af Aa ?_ | refine Av Aa own_stM hS ?_ | refine Ba Aa own_stM hS ?_ | refine Ag Aa ?_ | refine Ae Aa ?_ | refine Be Aa ?_ | refine Bd Aa ?_ | refine Ak Aa ?_ | refine Aj Aa ?_ | refine Aw Aa (fun hc => ?_) (fun hc => ?_) | refine Az Aa ?_ | refine Bk Aa ?_) <;> refine Ad ?_) | ((first | refine Ay Aa own_stM hS ?_); clear hS; intro b w hS; refine Ad ?_) | ((first | refine Ap Aa own_stM hS ?_ | refine Aq Aa own_stM hS ?_); clear hS; intro w hS; refine Ad ?_)) | ((fail_if_success (with_reducible refine Ac ?_)); first | go_step | go_step3 | rw [Exit.noGoto_normal] | rw [Exit.noGoto_ret] | rw [Exit.noGoto_exit]))
          refine s_lookup hS (by rfl) (by rfl) (by exact Try.underlying113) (by rfl) (by rfl) hr hk2 ?_
          refine Ad ?_
          clear hnew hat hka hk2 hnd hin hat' hnd'
          repeat' (first | ((with_reducible refine Ac ?_); first | ((first | refine Ai Aa ?_ | refine Al Aa ?_ | refine Af Aa ?_ | refine Av Aa own_stM hS ?_ | refine Ba Aa own_stM hS ?_ | refine Ag Aa ?_ | refine Ae Aa ?_ | refine Be Aa ?_ | refine Bd Aa ?_ | refine Ak Aa ?_ | refine Aj Aa ?_ | refine Aw Aa (fun hc => ?_) (fun hc => ?_) | refine Az Aa ?_ | refine Bk Aa ?_) <;> refine Ad ?_) | ((first | refine Ay Aa own_stM hS ?_); clear hS; intro b w hS; refine Ad ?_) | ((first | refine Ap Aa own_stM hS ?_ | refine Aq Aa own_stM hS ?_); clear hS; intro w hS; refine Ad ?_)) | ((fail_if_success (with_reducible refine Ac ?_)); first | go_step | go_step3 | rw [Exit.noGoto_normal] | rw [Exit.noGoto_ret] | rw [Exit.noGoto_exit]))
          go_ret
          exact ⟨false, rfl, by simp [hns2], hS.1.below⟩
        · by_cases hhigh : 65535 < a
          · have hns2 := hns (fun h => absurd h.2 (by omega))
            repeat' (first | ((with_reducible refine Ac ?_); first | ((first | refine Ai Aa ?_ | refine Al Aa ?_ | refine Af Aa ?_ | refine Av Aa own_stM hS ?_ (hv := by first | rfl | exact Bi | (rw [Array.getElem?_toList]; first | exact c3 | exact c2)) | refine Bs Aa (by first | exact ((hS).far hb).1) ?_ (hv := by first | rfl | exact Bi | (rw [Array.getElem?_toList]; first | exact c3 | exact c2)) | refine Ba Aa own_stM hS ?_ (hv := by first | exact Bo _ _ (by (try simp only [Bn, Bg, Bm, List.length_append, List.length_set, zs_len, List.length_take, List.length_drop, List.length_cons, List.length_nil]); first | done | rfl | omega) | (first | exact c3 | exact c2) | rfl) | refine Da Aa (by first | exact ((hS).far hb).1) ?_ (hv := by first | exact Bo _ _ (by (try simp only [Bn, Bg, Bm, List.length_append, List.length_set, zs_len, List.length_take, List.length_drop, List.length_cons, List.length_nil]); first | done | rfl | omega) | (first | exact c3 | exact c2) | rfl) | refine Ag Aa ?_ | refine Ae Aa ?_ | refine Be Aa ?_ | refine Bd Aa ?_ | refine Ak Aa ?_ | refine Aj Aa ?_ | refine Aw Aa (fun hc => ?_) (fun hc => ?_) | refine Az Aa ?_ | refine Bk Aa ?_) <;> refine Ad ?_) | ((first | refine Ay Aa own_stM hS ?_); clear hS; intro b w hS; refine Ad ?_) | ((first | refine Ap Aa own_stM hS ?_ | refine Aq Aa own_stM hS ?_); clear hS; intro w hS; refine Ad ?_) | (refine Ap Aa own_stM hS ?_ (hv := hdV_ones _ _); clear hS; intro w hS; refine Ad ?_)) | ((fail_if_success (with_reducible refine Ac ?_)); first | go_step | go_step3 | rw [Exit.noGoto_normal] | rw [Exit.noGoto_ret] | rw [Exit.noGoto_exit]))
            refine s_lookup hS (by rfl) (by rfl) (by exact Try.underlying113) (by rfl) (by rfl) hr hka ?_
            refine Ad ?_
            repeat' (first | ((with_reducible refine Ac ?_); first | ((first | refine Ai Aa ?_ | refine Al Aa ?_ | refine Af Aa ?_ | refine Av Aa own_stM hS ?_ | refine Ba Aa own_stM hS ?_ | refine Ag Aa ?_ | refine Ae Aa ?_ | refine Be Aa ?_ | refine Bd Aa ?_ | refine Ak Aa ?_ | refine Aj Aa ?_ | refine Aw Aa (fun hc => ?_) (fun hc => ?_) | refine Az Aa ?_ | refine Bk Aa ?_) <;> refine Ad ?_) | ((first | refine Ay Aa own_stM hS ?_); clear hS; intro b w hS; refine Ad ?_) | ((first | refine Ap Aa own_stM hS ?_ | refine Aq Aa own_stM hS ?_); clear hS; intro w hS; refine Ad ?_)) | ((fail_if_success (with_reducible refine Ac ?_)); first | go_step | go_step3 | rw [Exit.noGoto_normal] | rw [Exit.noGoto_ret] | rw [Exit.noGoto_exit]))
            refine s_update hS (by rfl) (by rfl) (by exact Try.underlying113) (by omega) (by rfl) (by rfl) (by rfl) hr (by omega) ?_
            clear hS
            intro w hS
            refine Ad ?_
            repeat' (first | ((with_reducible refine Ac ?_); first | ((first | refine Ai Aa ?_ | refine Al Aa ?_ | refine Af Aa ?_ | refine Av Aa own_stM hS ?_ | refine Ba Aa own_stM hS ?_ | refine Ag Aa ?_ | refine Ae Aa ?_ | refine Be Aa ?_ | refine Bd Aa ?_ | refine Ak Aa ?_ | refine Aj Aa ?_ | refine Aw Aa (fun hc => ?_) (fun hc => ?_) | refine Az Aa ?_ | refine Bk Aa ?_) <;> refine Ad ?_) | ((first | refine Ay Aa own_stM hS ?_); clear hS; intro b w hS; refine Ad ?_) | ((first | refine Ap Aa own_stM hS ?_ | refine Aq Aa own_stM hS ?_); clear hS; intro w hS; refine Ad ?_)) | ((fail_if_success (with_reducible refine Ac ?_)); first | go_step | go_step3 | rw [Exit.noGoto_normal] | rw [Exit.noGoto_ret] | rw [Exit.noGoto_exit]))
            refine s_lookup hS (by rfl) (by rfl) (by exact Try.underlying113) (by rfl) (by rfl) hr hk2 ?_
            refine Ad ?_
            clear hnew hat hka hk2 hnd hin hat' hnd'
            repeat' (first | ((with_reducible refine Ac ?_); first | ((first | refine Ai Aa ?_ | refine Al Aa ?_ | refine Af Aa ?_ | refine Av Aa own_stM hS ?_ | refine Ba Aa own_stM hS ?_ | refine Ag Aa ?_ | refine Ae Aa ?_ | refine Be Aa ?_ | refine Bd Aa ?_ | refine Ak Aa ?_ | refine Aj Aa ?_ | refine Aw Aa (fun hc => ?_) (fun hc => ?_) | refine Az Aa ?_ | refine Bk Aa ?_) <;> refine Ad ?_) | ((first | refine Ay Aa own_stM hS ?_); clear hS; intro b w hS; refine Ad ?_) | ((first | refine Ap Aa own_stM hS ?_ | refine Aq Aa own_stM hS ?_); clear hS; intro w hS; refine Ad ?_)) | ((fail_if_success (with_reducible refine Ac ?_)); first | go_step | go_step3 | rw [Exit.noGoto_normal] | rw [Exit.noGoto_ret] | rw [Exit.noGoto_exit]))
            go_ret
            exact ⟨false, rfl, by simp [hns2], hS.1.below⟩
          · have hin' : ∀ x ∈ l.take (k + 1), inR x.1 := fun x hx' => by
              rw [htk, List.mem_append] at hx'
              rcases hx' with h | h
              · exact hin x h
              · simp at h; subst h; exact ⟨by omega, by omega⟩
            repeat' (first | ((with_reducible refine Ac ?_); first | ((first | refine Ai Aa ?_ | refine Al Aa ?_ | refine Af Aa ?_ | refine Av Aa own_stM hS ?_ (hv := by first | rfl | exact Bi | (rw [Array.getElem?_toList]; first | exact c3 | exact c2)) | refine Bs Aa (by first | exact ((hS).far hb).1) ?_ (hv := by first | rfl | exact Bi | (rw [Array.getElem?_toList]; first | exact c3 | exact c2)) | refine Ba Aa own_stM hS ?_ (hv := by first | exact Bo _ _ (by (try simp only [Bn, Bg, Bm, List.length_append, List.length_set, zs_len, List.length_take, List.length_drop, List.length_cons, List.length_nil]); first | done | rfl | omega) | (first | exact c3 | exact c2) | rfl) | refine Da Aa (by first | exact ((hS).far hb).1) ?_ (hv := by first | exact Bo _ _ (by (try simp only [Bn, Bg, Bm, List.length_append, List.length_set, zs_len, List.length_take, List.length_drop, List.length_cons, List.length_nil]); first | done | rfl | omega) | (first | exact c3 | exact c2) | rfl) | refine Ag Aa ?_ | refine Ae Aa ?_ | refine Be Aa ?_ | refine Bd Aa ?_ | refine Ak Aa ?_ | refine Aj Aa ?_ | refine Aw Aa (fun hc => ?_) (fun hc => ?_) | refine Az Aa ?_ | refine Bk Aa ?_) <;> refine Ad ?_) | ((first | refine Ay Aa own_stM hS ?_); clear hS; intro b w hS; refine Ad ?_) | ((first | refine Ap Aa own_stM hS ?_ | refine Aq Aa own_stM hS ?_); clear hS; intro w hS; refine Ad ?_) | (refine Ap Aa own_stM hS ?_ (hv := hdV_ones _ _); clear hS; intro w hS; refine Ad ?_)) | ((fail_if_success (with_reducible refine Ac ?_)); first | go_step | go_step3 | rw [Exit.noGoto_normal] | rw [Exit.noGoto_ret] | rw [Exit.noGoto_exit]))
            refine s_lookup hS (by rfl) (by rfl) (by exact Try.underlying113) (by rfl) (by rfl) hr hka ?_
            refine Ad ?_
            repeat' (first | ((with_reducible refine Ac ?_); first | ((first | refine Ai Aa ?_ | refine Al Aa ?_ | refine Af Aa ?_ | refine Av Aa own_stM hS ?_ | refine Ba Aa own_stM hS ?_ | refine Ag Aa ?_ | refine Ae Aa ?_ | refine Be Aa ?_ | refine Bd Aa ?_ | refine Ak Aa ?_ | refine Aj Aa ?_ | refine Aw Aa (fun hc => ?_) (fun hc => ?_) | refine Az Aa ?_ | refine Bk Aa ?_) <;> refine Ad ?_) | ((first | refine Ay Aa own_stM hS ?_); clear hS; intro b w hS; refine Ad ?_) | ((first | refine Ap Aa own_stM hS ?_ | refine Aq Aa own_stM hS ?_); clear hS; intro w hS; refine Ad ?_)) | ((fail_if_success (with_reducible refine Ac ?_)); first | go_step | go_step3 | rw [Exit.noGoto_normal] | rw [Exit.noGoto_ret] | rw [Exit.noGoto_exit]))
            refine s_update hS (by rfl) (by rfl) (by exact Try.underlying113) (by omega) (by rfl) (by rfl) (by rfl) hr (by omega) ?_
            clear hS
            intro w hS
            refine Ad ?_
            repeat' (first | ((with_reducible refine Ac ?_); first | ((first | refine Ai Aa ?_ | refine Al Aa ?_ | refine Af Aa ?_ | refine Av Aa own_stM hS ?_ | refine Ba Aa own_stM hS ?_ | refine Ag Aa ?_ | refine Ae Aa ?_ | refine Be Aa ?_ | refine Bd Aa ?_ | refine Ak Aa ?_ | refine Aj Aa ?_ | refine Aw Aa (fun hc => ?_) (fun hc => ?_) | refine Az Aa ?_ | refine Bk Aa ?_) <;> refine Ad ?_) | ((first | refine Ay Aa own_stM hS ?_); clear hS; intro b w hS; refine Ad ?_) | ((first | refine Ap Aa own_stM hS ?_ | refine Aq Aa own_stM hS ?_); clear hS; intro w hS; refine Ad ?_)) | ((fail_if_success (with_reducible refine Ac ?_)); first | go_step | go_step3 | rw [Exit.noGoto_normal] | rw [Exit.noGoto_ret] | rw [Exit.noGoto_exit]))
            refine s_lookup hS (by rfl) (by rfl) (by exact Try.underlying113) (by rfl) (by rfl) hr hk2 ?_
            refine Ad ?_
            clear hnew hat hka hk2 hnd hin
            repeat' (first | ((with_reducible refine Ac ?_); first | ((first | refine Ai Aa ?_ | refine Al Aa ?_ | refine Af Aa ?_ | refine Av Aa own_stM hS ?_ | refine Ba Aa own_stM hS ?_ | refine Ag Aa ?_ | refine Ae Aa ?_ | refine Be Aa ?_ | refine Bd Aa ?_ | refine Ak Aa ?_ | refine Aj Aa ?_ | refine Aw Aa (fun hc => ?_) (fun hc => ?_) | refine Az Aa ?_ | refine Bk Aa ?_) <;> refine Ad ?_) | ((first | refine Ay Aa own_stM hS ?_); clear hS; intro b w hS; refine Ad ?_) | ((first | refine Ap Aa own_stM hS ?_ | refine Aq Aa own_stM hS ?_); clear hS; intro w hS; refine Ad ?_)) | ((fail_if_success (with_reducible refine Ac ?_)); first | go_step | go_step3 | rw [Exit.noGoto_normal] | rw [Exit.noGoto_ret] | rw [Exit.noGoto_exit]))
            go_roundw
            case rel => exact ⟨k + 1, _, by omega, by push_cast; rfl, hD.put _ _, hnd', hin', hat', own_stM.sub hS (fun _ h => absurd h List.not_mem_nil) List.nodup_nil⟩
            case measure => first | (simp [intOf]; done) | (simp [intOf]; omega)
    · obtain rfl : k = n := by omega
      have htl : l.take k = l := List.take_of_length_le (by omega)
      rw [htl] at hnd hin
      clear hat
      by_cases h56 : k ≤ 56
      · repeat' (first | ((with_reducible refine Ac ?_); first | ((first | refine Ai Aa ?_ | refine Al Aa ?_ | refine Af Aa ?_ | refine Av Aa own_stM hS ?_ | refine Ba Aa own_stM hS ?_ | refine Ag Aa ?_ | refine Ae Aa ?_ | refine Be Aa ?_ | refine Bd Aa ?_ | refine Ak Aa ?_ | refine Aj Aa ?_ | refine Aw Aa (fun hc => ?_) (fun hc => ?_) | refine Az Aa ?_ | refine Bk Aa ?_) <;> refine Ad ?_) | ((first | refine Ay Aa own_stM hS ?_); clear hS; intro b w hS; refine Ad ?_) | ((first | refine Ap Aa own_stM hS ?_ | refine Aq Aa own_stM hS ?_); clear hS; intro w hS; refine Ad ?_)) | ((fail_if_success (with_reducible refine Ac ?_)); first | go_step | go_step3 | rw [Exit.noGoto_normal] | rw [Exit.noGoto_ret] | rw [Exit.noGoto_exit]))
        go_ret
        exact ⟨true, rfl, by simp; exact ⟨hnd, hin, by omega⟩, hS.1.below⟩
      · repeat' (first | ((with_reducible refine Ac ?_); first | ((first | refine Ai Aa ?_ | refine Al Aa ?_ | refine Af Aa ?_ | refine Av Aa own_stM hS ?_ | refine Ba Aa own_stM hS ?_ | refine Ag Aa ?_ | refine Ae Aa ?_ | refine Be Aa ?_ | refine Bd Aa ?_ | refine Ak Aa ?_ | refine Aj Aa ?_ | refine Aw Aa (fun hc => ?_) (fun hc => ?_) | refine Az Aa ?_ | refine Bk Aa ?_) <;> refine Ad ?_) | ((first | refine Ay Aa own_stM hS ?_); clear hS; intro b w hS; refine Ad ?_) | ((first | refine Ap Aa own_stM hS ?_ | refine Aq Aa own_stM hS ?_); clear hS; intro w hS; refine Ad ?_)) | ((fail_if_success (with_reducible refine Ac ?_)); first | go_step | go_step3 | rw [Exit.noGoto_normal] | rw [Exit.noGoto_ret] | rw [Exit.noGoto_exit]))
        go_ret
        exact ⟨false, rfl, by simp; exact fun h => absurd h.2.2 (by omega), hS.1.below⟩
end Go.Proofs.Ytcjncidahjneaaa

namespace Go.Proofs.Ytcjncidahjneaaa
open Go.ChangeShapes Go.WideShapes Go.ChangeAt Go.RowKit
attribute [local irreducible] wpList wpListIn Oper.quietAt wpM
set_option maxRecDepth 100000 in
set_option maxHeartbeats 1000000 in
theorem sized_2 (w0 : World) : Calls Try.prog 74 #[.int .i64 2] w0 fun e w' => e = .returned (.bool true) ∧ Below w0.heap.size w0 w' := by
  have hS := St.start w0
  go_enter Try.func74, Try.ntmps74
  repeat' (first | ((with_reducible refine Ac ?_); first | ((first | refine Ai Aa ?_ | refine Al Aa ?_ | refine Af Aa ?_ | refine Ak Aa ?_ | refine Aj Aa ?_ | refine Aw Aa (fun hc => ?_) (fun hc => ?_) | refine Bk Aa ?_) <;> refine Ad ?_)) | ((fail_if_success (with_reducible refine Ac ?_)); first | go_step | go_step3 | rw [Exit.noGoto_normal] | rw [Exit.noGoto_ret] | rw [Exit.noGoto_exit]))
  go_ret
  exact ⟨rfl, hS.below⟩
set_option maxRecDepth 100000 in
set_option maxHeartbeats 4000000 in
theorem put_2 (l : List UInt8) (v : Value) (hv0 : l = [] → v = .slice none 0 0) (hm : l.length ≤ 1000) (n : Int) (hn : 0 ≤ n ∧ n ≤ 65535) (w0 : World) (hv : BytesAt w0 v l) :
    Calls Try.prog 58 #[v, .int .i64 2, .int .i64 n] w0 fun e w' => ∃ sv, e = .returned (.tuple #[sv, .nilIface]) ∧ OwnB w0.heap.size w' sv (l ++ beB (u64W n) 2) ∧ Below w0.heap.size w0 w' := by
  have hS := St.start w0
  have hb8 : (beB (u64W n) 2).length = 2 := beB_len _ _
  go_enter Try.func58, Try.ntmps58
  repeat' (first | ((with_reducible refine Ac ?_); first | ((first | refine Ai Aa ?_ | refine Al Aa ?_ | refine Af Aa ?_ | refine Cj Aa ?_ | refine Ca Aa ?_ | refine Ak Aa ?_ | refine Aj Aa ?_ | refine Aw Aa (fun hc => ?_) (fun hc => ?_) | refine Ax Aa ?_ | refine Bq Aa ?_ | refine Bk Aa ?_ | refine Bw Aa ?_ | refine Ar Aa ?_) <;> refine Ad ?_) | ((first | refine Ao Aa Ab hS ?_ | refine As Aa Ab hS ?_); clear hS; intro b w hS; refine Ad ?_) | (refine Ce Aa Ab hS (sized_2 _) ?_; clear hS; intro w hS; refine Ad ?_) | (refine Stp.go Aa (by rfl) (by rfl) (r_shrI (i := 2) (by rfl) (by rfl) (by rfl) (by first | rfl | omega) (by decide) (show n / ((256 ^ 2 : Nat) : Int) = 0 by simp only [Nat.reducePow]; omega)) ?_; refine Ad ?_)) | ((fail_if_success (with_reducible refine Ac ?_)); first | go_step | go_step3 | rw [Exit.noGoto_normal] | rw [Exit.noGoto_ret] | rw [Exit.noGoto_exit]))
  refine s_call Aa (by rfl) (by rfl) (by rfl) (by rfl) (by rfl) (by infer_instance) (cloneB v l hv0 (by omega) _ (hv.below hS.below)) ?_
  rintro e w1 ⟨sv, rfl, ho, hB⟩
  refine ⟨_, rfl, ?_⟩
  refine Ad ?_
  obtain ⟨Lr, hR, hS2⟩ := ho.join hS hB
  replace hS := hS2
  clear hS2 ho hB
  repeat' (first | ((with_reducible refine Ac ?_); first | ((first | refine Ai Aa ?_ | refine Al Aa ?_ | refine Af Aa ?_ | refine Cj Aa ?_ | refine Ca Aa ?_ | refine Ak Aa ?_ | refine Aj Aa ?_ | refine Aw Aa (fun hc => ?_) (fun hc => ?_) | refine Ax Aa ?_ | refine Bq Aa ?_ | refine Bk Aa ?_ | refine Bw Aa ?_ | refine Ar Aa ?_) <;> refine Ad ?_) | ((first | refine Ao Aa Ab hS ?_ | refine As Aa Ab hS ?_); clear hS; intro b w hS; refine Ad ?_)) | ((fail_if_success (with_reducible refine Ac ?_)); first | go_step | go_step3 | rw [Exit.noGoto_normal] | rw [Exit.noGoto_ret] | rw [Exit.noGoto_exit]))
  refine s_call Aa (by rfl) (by rfl) (by rfl) (by rfl) (by rfl) (by infer_instance) (growB l sv Lr [] hR 2 (by omega) (by omega) _ _ hS) ?_
  rintro e w2 ⟨sv2, Lr2, rfl, hR2, hS2⟩
  refine ⟨_, rfl, ?_⟩
  refine Ad ?_
  replace hS := hS2
  clear hS2 hR
  repeat' (first | ((with_reducible refine Ac ?_); first | ((first | refine Ai Aa ?_ | refine Al Aa ?_ | refine Af Aa ?_ | refine Cj Aa ?_ | refine Ca Aa ?_ | refine Ak Aa ?_ | refine Aj Aa ?_ | refine Aw Aa (fun hc => ?_) (fun hc => ?_) | refine Ax Aa ?_ | refine Bq Aa ?_ | refine Bk Aa ?_ | refine Bw Aa ?_ | refine Ar Aa ?_) <;> refine Ad ?_) | ((first | refine Ao Aa Ab hS ?_ | refine As Aa Ab hS ?_); clear hS; intro b w hS; refine Ad ?_)) | ((fail_if_success (with_reducible refine Ac ?_)); first | go_step | go_step3 | rw [Exit.noGoto_normal] | rw [Exit.noGoto_ret] | rw [Exit.noGoto_exit]))
  go_loopw [8, 9] (fun u8 u9 wr => ∃ (k : Nat) (Lr : List Blk), k ≤ 2 ∧ u9 = .int .i64 (1 - (k : Int)) ∧ BL (l ++ (beB (u64W n) 2).take k) u8 Lr ∧ St w0 wr Lr) (fun _ u9 _ => (intOf u9 + 1).toNat)
  case atStart => exact ⟨0, Lr2, by omega, rfl, by rw [List.take_zero, List.append_nil]; exact hR2, by rwa [List.append_nil] at hS⟩
  case round =>
    obtain ⟨k, Lr, hk, rfl, hR, hS⟩ := hrel
    obtain ⟨p2, c2, rfl⟩ := hR.slice
    have hll : (l ++ (beB (u64W n) 2).take k).length ≤ 2000 := by rw [List.length_append, List.length_take]; omega
    by_cases hlt : k < 2
    · obtain ⟨i, hi⟩ : ∃ i : Nat, 1 - (k : Int) = (i : Int) := ⟨1 - k, by omega⟩
      rw [hi]
      have hi8 : i < 8 := by omega
      have hby := byte_at n hi8
      obtain ⟨q, hq⟩ : ∃ q, n / ((256 ^ i : Nat) : Int) = q := ⟨_, rfl⟩
      rw [hq] at hby
      repeat' (first | ((with_reducible refine Ac ?_); first | ((first | refine Ai Aa ?_ | refine Al Aa ?_ | refine Af Aa ?_ | refine Cj Aa ?_ | refine Ca Aa ?_ | refine Ak Aa ?_ | refine Aj Aa ?_ | refine Aw Aa (fun hc => ?_) (fun hc => ?_) | refine Ax Aa ?_ | refine Bq Aa ?_ | refine Bk Aa ?_ | refine Bw Aa ?_ | refine Ar Aa ?_) <;> refine Ad ?_) | ((first | refine Ao Aa Ab hS ?_ | refine As Aa Ab hS ?_); clear hS; intro b w hS; refine Ad ?_) | (refine Stp.go Aa (by rfl) (by rfl) (r_shrI (by rfl) (by rfl) (by rfl) (by first | rfl | omega) hi8 hq) ?_; refine Ad ?_) | (refine Stp.go Aa (by rfl) (by rfl) (r_convQ (by rfl) (by rfl) (by infer_instance) (by infer_instance) hby) ?_; refine Ad ?_)) | ((fail_if_success (with_reducible refine Ac ?_)); first | go_step | go_step3 | rw [Exit.noGoto_normal] | rw [Exit.noGoto_ret] | rw [Exit.noGoto_exit]))
      refine s_appB (L := []) (z := UInt8.ofNat (u64W n / 256 ^ i)) (by rwa [List.append_nil]) hR (by omega) (by rfl) (by rfl) (by rfl) (by rfl) ?_
      intro sv' Lr' w' hR' hS'
      rw [List.append_nil] at hS'
      rw [List.append_assoc, ← beB_next (m := 2) (u64W n) hlt (by omega)] at hR'
      obtain ⟨p3, c3, rfl⟩ := hR'.slice
      refine Ad ?_
      replace hS := hS'
      clear hS' hR
      repeat' (first | ((with_reducible refine Ac ?_); first | ((first | refine Ai Aa ?_ | refine Al Aa ?_ | refine Af Aa ?_ | refine Cj Aa ?_ | refine Ca Aa ?_ | refine Ak Aa ?_ | refine Aj Aa ?_ | refine Aw Aa (fun hc => ?_) (fun hc => ?_) | refine Ax Aa ?_ | refine Bq Aa ?_ | refine Bk Aa ?_ | refine Bw Aa ?_ | refine Ar Aa ?_) <;> refine Ad ?_) | ((first | refine Ao Aa Ab hS ?_ | refine As Aa Ab hS ?_); clear hS; intro b w hS; refine Ad ?_)) | ((fail_if_success (with_reducible refine Ac ?_)); first | go_step | go_step3 | rw [Exit.noGoto_normal] | rw [Exit.noGoto_ret] | rw [Exit.noGoto_exit]))
      go_roundw
      case rel => exact ⟨k + 1, Lr', by omega, by rw [← hi]; push_cast; congr 1; omega, hR', hS⟩
      case measure => first | (simp [intOf]; done) | (simp [intOf]; omega)
    · obtain rfl : k = 2 := by omega
      rw [List.take_of_length_le (by omega)] at hR hll ⊢
      repeat' (first | ((with_reducible refine Ac ?_); first | ((first | refine Ai Aa ?_ | refine Al Aa ?_ | refine Af Aa ?_ | refine Cj Aa ?_ | refine Ca Aa ?_ | refine Ak Aa ?_ | refine Aj Aa ?_ | refine Aw Aa (fun hc => ?_) (fun hc => ?_) | refine Ax Aa ?_ | refine Bq Aa ?_ | refine Bk Aa ?_ | refine Bw Aa ?_ | refine Ar Aa ?_) <;> refine Ad ?_) | ((first | refine Ao Aa Ab hS ?_ | refine As Aa Ab hS ?_); clear hS; intro b w hS; refine Ad ?_)) | ((fail_if_success (with_reducible refine Ac ?_)); first | go_step | go_step3 | rw [Exit.noGoto_normal] | rw [Exit.noGoto_ret] | rw [Exit.noGoto_exit]))
      go_ret2
      exact ⟨_, rfl, hR.own hS (fun x hx => hx), hS.below⟩
instance instWp2_1 : AtT Try.prog 30 1 ((zs 128).map bv) := ⟨by kernel_rfl⟩
set_option maxRecDepth 100000 in
theorem fillG (l : List UInt8) (hl : l.length ≤ 128) (v : Value) (w0 : World) (hv : BytesAt w0 v l) :
    Calls Try.prog 59 #[v] w0 fun e w' => e = .returned (.tuple #[.agg (bvs (l ++ zs (128 - l.length))), .nilIface]) ∧ Below w0.heap.size w0 w' := by
  obtain ⟨p, c, rfl, hc⟩ := hv.slice
  have hS := St.start w0
  have l1 : l.take 128 = l := List.take_of_length_le hl
  have s1 : csz (bvs (l ++ zs (128 - l.length))) = 128 := by rw [Bg, List.length_append, zs_len]; omega
  go_enter Try.func59, Try.ntmps59
  repeat' (first | ((with_reducible refine Ac ?_); first | ((first | refine Ai Aa ?_ | refine Al Aa ?_ | refine Af Aa ?_ | refine Ba Aa Ab hS ?_ | refine Be Aa ?_ | refine Ak Aa ?_ | refine Aj Aa ?_ | refine Aw Aa (fun hc => ?_) (fun hc => ?_) | refine Ax Aa ?_ | refine Bh Aa ?_ | refine Bc Aa ?_ | refine Au Aa ?_) <;> refine Ad ?_) | ((first | refine Ay Aa Ab hS ?_); clear hS; intro b w hS; refine Ad ?_) | ((first | refine Ap Aa Ab hS ?_ | refine Aq Aa Ab hS ?_); clear hS; intro w hS; refine Ad ?_)) | ((fail_if_success (with_reducible refine Ac ?_)); first | go_step | go_step3 | rw [Exit.noGoto_normal] | rw [Exit.noGoto_ret] | rw [Exit.noGoto_exit]))
  refine s_copy (i := 0) Aa Ab hS (by rfl) (by rfl) (by rfl) (by rfl) (by infer_instance) (by rfl) (hv.below hS.below) (by rw [l1, Bg, zs_len]; omega) (cs2 := bvs (l ++ zs (128 - l.length))) (by
    rw [ovw_bvs, l1, List.take_zero, List.nil_append]; congr 2; unfold zs; rw [List.drop_replicate, Nat.zero_add]) (by (try conv => lhs; simp only [List.set_cons_zero, List.set_cons_succ, List.eraseIdx_cons_zero, List.eraseIdx_cons_succ]); first | done | rfl) rfl ?_
  clear hS
  intro w hS
  refine Ad ?_
  repeat' (first | ((with_reducible refine Ac ?_); first | ((first | refine Ai Aa ?_ | refine Al Aa ?_ | refine Af Aa ?_ | refine Ba Aa Ab hS ?_ | refine Be Aa ?_ | refine Ak Aa ?_ | refine Aj Aa ?_ | refine Aw Aa (fun hc => ?_) (fun hc => ?_) | refine Ax Aa ?_ | refine Bh Aa ?_ | refine Bc Aa ?_ | refine Au Aa ?_) <;> refine Ad ?_) | ((first | refine Ay Aa Ab hS ?_); clear hS; intro b w hS; refine Ad ?_) | ((first | refine Ap Aa Ab hS ?_ | refine Aq Aa Ab hS ?_); clear hS; intro w hS; refine Ad ?_)) | ((fail_if_success (with_reducible refine Ac ?_)); first | go_step | go_step3 | rw [Exit.noGoto_normal] | rw [Exit.noGoto_ret] | rw [Exit.noGoto_exit]))
  exact post_cell_tmp (n := 128) Try.results59 (by kernel_rfl) (.inl rfl) _ _ _ _ rfl rfl (hS.blk 1 rfl) (by rw [← csz_is]; exact s1) ⟨rfl, hS.below⟩
end Go.Proofs.Ytcjncidahjneaaa

namespace Go.Proofs.Ytcjncidahjneaaa
open Go.ChangeShapes Go.WideShapes Go.ChangeAt Go.RowKit
attribute [local irreducible] wpList wpListIn Oper.quietAt wpM
attribute [local irreducible] tagL
def firstT (n : Int) (l : List Pt) : List UInt8 := beB (u64W n) 8 ++ (beB l.length 2 ++ l.flatMap fun x => beB (u64W x.1) 2)
def firstC (n : Int) (l : List Pt) : List UInt8 := firstT n l ++ zs (128 - (firstT n l).length)
theorem nums_len : ∀ l : List Pt, (l.flatMap fun x => beB (u64W x.1) 2).length = 2 * l.length
  | [] => rfl
  | x :: l => by rw [List.flatMap_cons, List.length_append, beB_len, nums_len l, List.length_cons]; omega
theorem firstT_len (n : Int) (l : List Pt) : (firstT n l).length = 10 + 2 * l.length := by
  unfold firstT
  rw [List.length_append, List.length_append, beB_len, beB_len, nums_len]; omega
theorem nums_next {l : List Pt} {k : Nat} {x : Pt} (h : l[k]? = some x) : ((l.take (k + 1)).flatMap fun x => beB (u64W x.1) 2) = ((l.take k).flatMap fun x => beB (u64W x.1) 2) ++ beB (u64W x.1) 2 := by
  rw [List.take_add_one, h, List.flatMap_append]
  simp
set_option maxRecDepth 100000 in
set_option maxHeartbeats 4000000 in
theorem first_any (n : Int) (l : List Pt) (hs : soundP l) (v : Value) (w0 : World) (hv : PutsAt w0 v l) :
    Calls Try.prog 40 #[.int .i64 n, v] w0 fun e w' => e = .returned (.tuple #[.agg (bvs (firstC n l)), .nilIface]) ∧ Below w0.heap.size w0 w' := by
  obtain ⟨ho, p, c, rfl, hc, hp0, hcell⟩ := hv
  have hS := St.start w0
  have hTl := firstT_len n l
  have hFC : firstC n l = firstT n l ++ zs (128 - (firstT n l).length) := rfl
  have hTT : firstT n l = (beB (u64W n) 8 ++ beB l.length 2) ++ l.flatMap fun x => beB (u64W x.1) 2 := by unfold firstT; rw [List.append_assoc]
  have h8 := beB_len (u64W n) 8
  have h2 := beB_len l.length 2
  obtain ⟨hs1, hs2, hs3⟩ := hs
  obtain ⟨q, hq⟩ : ∃ q, l.length = q := ⟨_, rfl⟩
  have hu : u64W (q : Int) = q := by unfold u64W; omega
  rw [hq] at hc h2 hTT hTl hs3 ⊢
  obtain ⟨A, hA⟩ : ∃ A, beB (u64W n) 8 = A := ⟨_, rfl⟩
  have hp8 := fun w => put_8 [] (.slice none 0 0) (fun _ => rfl) (by simp) n w ⟨none, 0, rfl, Nat.le_refl _, fun _ => rfl, fun h => absurd rfl h⟩
  rw [List.nil_append, hA] at hp8
  rw [hA] at h8 hTT
  have s128 : csz (bvs (zs 128)) = 128 := by rw [Bg, zs_len]
  go_enter Try.func40, Try.ntmps40
  repeat' (first | ((with_reducible refine Ac ?_); first | ((first | refine Ai Aa ?_ | refine Al Aa ?_ | refine Af Aa ?_ | refine Av Aa Ab hS ?_ | refine Ag Aa ?_ | refine Ae Aa ?_ | refine Be Aa ?_ | refine Bl Aa ?_ | refine Bd Aa ?_ | refine Ak Aa ?_ | refine Aj Aa ?_ | refine Aw Aa (fun hc => ?_) (fun hc => ?_) | refine Cg Aa ?_ | refine Bz Aa ?_ | refine Ck Aa ?_ | refine Cd Aa ?_ | refine Az Aa ?_ | refine Bx Aa ?_ | refine Bu Aa ?_ | refine Bk Aa ?_ | refine Cp Aa ?_ | refine Ar Aa ?_) <;> refine Ad ?_) | ((first | refine Ay Aa Ab hS ?_ | refine Ao Aa Ab hS ?_ | refine As Aa Ab hS ?_); clear hS; intro b w hS; refine Ad ?_) | ((first | refine Ap Aa Ab hS ?_ | refine Aq Aa Ab hS ?_); clear hS; intro w hS; refine Ad ?_)) | ((fail_if_success (with_reducible refine Ac ?_)); first | go_step | go_step3 | rw [Exit.noGoto_normal] | rw [Exit.noGoto_ret] | rw [Exit.noGoto_exit]))
  refine s_call Aa (by rfl) (by rfl) (by rfl) (by rfl) (by rfl) (by infer_instance) (hp8 _) ?_
  rintro e w1 ⟨sv, rfl, hO, hB⟩
  refine ⟨_, rfl, ?_⟩
  refine Ad ?_
  obtain ⟨Lr, hR, hS2⟩ := hO.join hS hB
  replace hS := hS2
  clear hS2 hO hB
  repeat' (first | ((with_reducible refine Ac ?_); first | ((first | refine Ai Aa ?_ | refine Al Aa ?_ | refine Af Aa ?_ | refine Av Aa Ab hS ?_ | refine Ag Aa ?_ | refine Ae Aa ?_ | refine Be Aa ?_ | refine Bl Aa ?_ | refine Bd Aa ?_ | refine Ak Aa ?_ | refine Aj Aa ?_ | refine Aw Aa (fun hc => ?_) (fun hc => ?_) | refine Cg Aa ?_ | refine Bz Aa ?_ | refine Ck Aa ?_ | refine Cd Aa ?_ | refine Az Aa ?_ | refine Bx Aa ?_ | refine Bu Aa ?_ | refine Bk Aa ?_ | refine Cp Aa ?_ | refine Ar Aa ?_) <;> refine Ad ?_) | ((first | refine Ay Aa Ab hS ?_ | refine Ao Aa Ab hS ?_ | refine As Aa Ab hS ?_); clear hS; intro b w hS; refine Ad ?_) | ((first | refine Ap Aa Ab hS ?_ | refine Aq Aa Ab hS ?_); clear hS; intro w hS; refine Ad ?_)) | ((fail_if_success (with_reducible refine Ac ?_)); first | go_step | go_step3 | rw [Exit.noGoto_normal] | rw [Exit.noGoto_ret] | rw [Exit.noGoto_exit]))
  have hbA := hR.inn hS (fun x hx => List.mem_append_left _ hx)
  refine s_call Aa (by rfl) (by rfl) (by rfl) (by rfl) (by rfl) (by infer_instance) (put_2 A sv (fun e => by rw [e] at h8; cases h8) (by omega) (q : Int) (by omega) _ hbA) ?_
  rintro e w2 ⟨sv2, rfl, hO, hB⟩
  rw [hu] at hO
  refine ⟨_, rfl, ?_⟩
  refine Ad ?_
  obtain ⟨bR, hbR⟩ : ∃ x, x = b := ⟨_, rfl⟩
  rw [← hbR] at hS ⊢
  clear hbR
  have hS3 : St w0 w1 [(bR, bvs (zs 128), 30)] := Ab.sub hS (fun x hx => List.mem_append_right _ hx) (by simp)
  clear hS hR hbA
  obtain ⟨Lr2, hR, hS⟩ := hO.join hS3 hB
  clear hS3 hO hB
  repeat' (first | ((with_reducible refine Ac ?_); first | ((first | refine Ai Aa ?_ | refine Al Aa ?_ | refine Af Aa ?_ | refine Av Aa Ab hS ?_ | refine Ag Aa ?_ | refine Ae Aa ?_ | refine Be Aa ?_ | refine Bl Aa ?_ | refine Bd Aa ?_ | refine Ak Aa ?_ | refine Aj Aa ?_ | refine Aw Aa (fun hc => ?_) (fun hc => ?_) | refine Cg Aa ?_ | refine Bz Aa ?_ | refine Ck Aa ?_ | refine Cd Aa ?_ | refine Az Aa ?_ | refine Bx Aa ?_ | refine Bu Aa ?_ | refine Bk Aa ?_ | refine Cp Aa ?_ | refine Ar Aa ?_) <;> refine Ad ?_) | ((first | refine Ay Aa Ab hS ?_ | refine Ao Aa Ab hS ?_ | refine As Aa Ab hS ?_); clear hS; intro b w hS; refine Ad ?_) | ((first | refine Ap Aa Ab hS ?_ | refine Aq Aa Ab hS ?_); clear hS; intro w hS; refine Ad ?_)) | ((fail_if_success (with_reducible refine Ac ?_)); first | go_step | go_step3 | rw [Exit.noGoto_normal] | rw [Exit.noGoto_ret] | rw [Exit.noGoto_exit]))
  go_loopw [6, 7, 8] (fun u6 u7 u8 wr => ∃ (k : Nat) (Lr : List Blk), k ≤ q ∧ u8 = .int .i64 (k : Int) ∧ u7 = .nilIface ∧ BL ((A ++ beB q 2) ++ (l.take k).flatMap fun x => beB (u64W x.1) 2) u6 Lr ∧ St w0 wr (Lr ++ [(bR, bvs (zs 128), 30)])) (fun _ _ u8 _ => q - (intOf u8).toNat)
  case atStart => exact ⟨0, Lr2, by omega, rfl, rfl, by rw [List.take_zero, List.flatMap_nil, List.append_nil]; exact hR, hS⟩
  case round =>
    clear hS hR
    obtain ⟨k, Lr, hk, rfl, rfl, hR, hS⟩ := hrel
    have hlk : ((A ++ beB q 2) ++ (l.take k).flatMap fun x => beB (u64W x.1) 2).length = 10 + 2 * k := by
      rw [List.length_append, List.length_append, h8, h2, nums_len, List.length_take]; omega
    by_cases hlt : k < q
    · obtain ⟨⟨a, C⟩, hx⟩ : ∃ x, l[k]? = some x := ⟨_, List.getElem?_eq_getElem (by omega)⟩
      obtain ⟨b, o, cs, ty, fr, rfl, hb, hcc⟩ := hcell (by intro e; rw [e] at hq; simp at hq; omega)
      obtain ⟨lC, c1, c2, c3, c4⟩ := put_cells ho hcc hx
      have hin := hs2 _ (List.mem_of_getElem? hx)
      have hnx := nums_next hx
      dsimp only at hnx hin
      obtain ⟨T, hTk⟩ : ∃ T, ((A ++ beB q 2) ++ (l.take k).flatMap fun x => beB (u64W x.1) 2) = T := ⟨_, rfl⟩
      rw [hTk] at hR hlk
      have hbT := hR.inn hS (fun x hx => List.mem_append_left _ hx)
      have hin2 : 0 ≤ a ∧ a ≤ 65535 := hin
      repeat' (first | ((with_reducible refine Ac ?_); first | ((first | refine Ai Aa ?_ | refine Al Aa ?_ | refine Af Aa ?_ | refine Av Aa Ab hS ?_ (hv := by first | rfl | exact Bi | (rw [Array.getElem?_toList]; exact c3)) | refine Bs Aa (by first | exact ((hS).far hb).1) ?_ (hv := by first | rfl | exact Bi | (rw [Array.getElem?_toList]; exact c3)) | refine Ag Aa ?_ | refine Ae Aa ?_ | refine Be Aa ?_ | refine Bl Aa ?_ | refine Bd Aa ?_ | refine Ak Aa ?_ | refine Aj Aa ?_ | refine Aw Aa (fun hc => ?_) (fun hc => ?_) | refine Cg Aa ?_ | refine Bz Aa ?_ | refine Ck Aa ?_ | refine Cd Aa ?_ | refine Az Aa ?_ | refine Bx Aa ?_ | refine Bu Aa ?_ | refine Bk Aa ?_ | refine Cp Aa ?_ | refine Ar Aa ?_) <;> refine Ad ?_) | ((first | refine Ay Aa Ab hS ?_ | refine Ao Aa Ab hS ?_ | refine As Aa Ab hS ?_); clear hS; intro b w hS; refine Ad ?_) | ((first | refine Ap Aa Ab hS ?_ | refine Aq Aa Ab hS ?_); clear hS; intro w hS; refine Ad ?_)) | ((fail_if_success (with_reducible refine Ac ?_)); first | go_step | go_step3 | rw [Exit.noGoto_normal] | rw [Exit.noGoto_ret] | rw [Exit.noGoto_exit]))
      refine s_call Aa (by rfl) (by rfl) (by rfl) (by rfl) (by rfl) (by infer_instance) (put_2 T _ (fun e => by rw [e] at hlk; simp at hlk; omega) (by omega) a hin2 _ hbT) ?_
      rintro e w3 ⟨sv3, rfl, hO, hB⟩
      refine ⟨_, rfl, ?_⟩
      refine Ad ?_
      have hS3 : St w0 wr [(bR, bvs (zs 128), 30)] := Ab.sub hS (fun x hx => List.mem_append_right _ hx) (by simp)
      clear hS hR hbT
      obtain ⟨Lr3, hR, hS⟩ := hO.join hS3 hB
      clear hS3 hO hB
      repeat' (first | ((with_reducible refine Ac ?_); first | ((first | refine Ai Aa ?_ | refine Al Aa ?_ | refine Af Aa ?_ | refine Av Aa Ab hS ?_ | refine Ag Aa ?_ | refine Ae Aa ?_ | refine Be Aa ?_ | refine Bl Aa ?_ | refine Bd Aa ?_ | refine Ak Aa ?_ | refine Aj Aa ?_ | refine Aw Aa (fun hc => ?_) (fun hc => ?_) | refine Cg Aa ?_ | refine Bz Aa ?_ | refine Ck Aa ?_ | refine Cd Aa ?_ | refine Az Aa ?_ | refine Bx Aa ?_ | refine Bu Aa ?_ | refine Bk Aa ?_ | refine Cp Aa ?_ | refine Ar Aa ?_) <;> refine Ad ?_) | ((first | refine Ay Aa Ab hS ?_ | refine Ao Aa Ab hS ?_ | refine As Aa Ab hS ?_); clear hS; intro b w hS; refine Ad ?_) | ((first | refine Ap Aa Ab hS ?_ | refine Aq Aa Ab hS ?_); clear hS; intro w hS; refine Ad ?_)) | ((fail_if_success (with_reducible refine Ac ?_)); first | go_step | go_step3 | rw [Exit.noGoto_normal] | rw [Exit.noGoto_ret] | rw [Exit.noGoto_exit]))
      go_roundw
      case rel => exact ⟨k + 1, Lr3, by omega, by push_cast; rfl, rfl, by rw [hnx, ← List.append_assoc, hTk]; exact hR, hS⟩
      case measure => first | (simp [intOf]; done) | (simp [intOf]; omega)
    · obtain rfl : k = q := by omega
      rw [List.take_of_length_le (by omega), ← hTT] at hR
      have hbT := hR.inn hS (fun x hx => List.mem_append_left _ hx)
      have sF : csz (bvs (firstC n l)) = 128 := by rw [hFC, Bg, List.length_append, zs_len, hTl]; omega
      have lF : (firstC n l).length = 128 := by rw [hFC, List.length_append, zs_len, hTl]; omega
      have hfill := fillG (firstT n l) (by omega) _ _ hbT
      rw [← hFC] at hfill
      obtain ⟨Y, hY⟩ : ∃ Y, firstC n l = Y := ⟨_, rfl⟩
      rw [hY] at hfill sF lF
      have hS3 : St w0 wr [(bR, bvs (zs 128), 30)] := Ab.sub hS (fun x hx => List.mem_append_right _ hx) (by simp)
      clear hS
      have hS := hS3
      clear hS3
      repeat' (first | ((with_reducible refine Ac ?_); first | ((first | refine Ai Aa ?_ | refine Al Aa ?_ | refine Af Aa ?_ | refine Av Aa Ab hS ?_ | refine Ag Aa ?_ | refine Ae Aa ?_ | refine Be Aa ?_ | refine Bl Aa ?_ | refine Bd Aa ?_ | refine Ak Aa ?_ | refine Aj Aa ?_ | refine Aw Aa (fun hc => ?_) (fun hc => ?_) | refine Cg Aa ?_ | refine Bz Aa ?_ | refine Ck Aa ?_ | refine Cd Aa ?_ | refine Az Aa ?_ | refine Bx Aa ?_ | refine Bu Aa ?_ | refine Bk Aa ?_ | refine Cp Aa ?_ | refine Ar Aa ?_) <;> refine Ad ?_) | ((first | refine Ay Aa Ab hS ?_ | refine Ao Aa Ab hS ?_ | refine As Aa Ab hS ?_); clear hS; intro b w hS; refine Ad ?_) | ((first | refine Ap Aa Ab hS ?_ | refine Aq Aa Ab hS ?_); clear hS; intro w hS; refine Ad ?_) | (refine Ce Aa Ab hS (hfill) ?_; clear hS; intro w hS; refine Ad ?_)) | ((fail_if_success (with_reducible refine Ac ?_)); first | go_step | go_step3 | rw [Exit.noGoto_normal] | rw [Exit.noGoto_ret] | rw [Exit.noGoto_exit]))
      exact post_cell_tmp (n := 128) Try.results40 (by kernel_rfl) (.inl rfl) _ _ _ _ rfl rfl (hS.blk 0 rfl) (by rw [← csz_is]; exact sF) ⟨by rw [hY]; rfl, hS.below⟩
end Go.Proofs.Ytcjncidahjneaaa

namespace Go.Proofs.Ytcjncidahjneaaa
open Go.ChangeShapes Go.WideShapes Go.ChangeAt Go.RowKit
attribute [local irreducible] wpList wpListIn Oper.quietAt wpM
attribute [local irreducible] tagL
/-- A put's bytes, as a slice. -/
def pvR (b o i : Nat) : Value := .slice (some ⟨b, o + i * 129 + 1, none⟩) 128 128
def bodyL (l : List Pt) : List UInt8 := l.flatMap (·.2)
def tagC (key C : List UInt8) (l : List Pt) : List UInt8 := tagL key (C ++ bodyL l) ++ zs 96
theorem tagC_len (key C : List UInt8) (l : List Pt) : (tagC key C l).length = 128 := by unfold tagC; rw [List.length_append, tagL_len, zs_len]
theorem bodyL_len : ∀ {l : List Pt}, okP l → (bodyL l).length = 128 * l.length
  | [], _ => rfl
  | x :: l, h => by
    have ih := bodyL_len (l := l) (fun y hy => h y (List.mem_cons_of_mem _ hy))
    unfold bodyL at ih ⊢
    rw [List.flatMap_cons, List.length_append, ih, (h x (List.mem_cons_self ..)).1, List.length_cons]; omega
theorem flat_body (C : List UInt8) (l : List Pt) : (C :: l.map (·.2)).flatten = C ++ bodyL l := by
  rw [List.flatten_cons]
  congr 1
theorem parts_of {w : World} {b o : Nat} {cs : Array Value} {t : TypeId} {fr : Nat × Nat} {l : List Pt} (hb : blk w b = some (.cells cs t fr)) (ho : okP l) (hc : ∀ j x, (putsC l)[j]? = some x → cs[o + j]? = some x) : PartsAt w ((List.range l.length).map (pvR b o)) (l.map (·.2)) := by
  refine ⟨by simp, fun i v m hi hm => ?_⟩
  rw [List.getElem?_map] at hi hm
  cases hx : l[i]? with
  | none => rw [hx] at hm; cases hm
  | some x =>
    rw [hx] at hm
    simp at hm
    subst hm
    obtain ⟨a, C⟩ := x
    have hil := (List.getElem?_eq_some_iff.1 hx).1
    rw [List.getElem?_range hil] at hi
    simp at hi
    subst hi
    obtain ⟨lC, c1, c2, c3, c4⟩ := put_cells ho hc hx
    refine ⟨bytesAt_blk hb lC (Nat.le_refl _) (fun j x hj => ?_), by intro e; dsimp only at e; rw [e] at lC; cases lC⟩
    obtain ⟨hj1, rfl⟩ := List.getElem?_eq_some_iff.1 hj
    have hj3 : j < C.length := hj1
    have hj2 : j < 128 := by omega
    have := c4 j hj2
    rw [this, List.getD_eq_getElem?_getD, List.getElem?_eq_getElem hj1]
    rfl
theorem range_snoc (b o k : Nat) : (List.range (k + 1)).map (pvR b o) = (List.range k).map (pvR b o) ++ [pvR b o k] := by rw [List.range_succ, List.map_append]; rfl
set_option maxRecDepth 100000 in
set_option maxHeartbeats 4000000 in
theorem rdTag_any (key C : List UInt8) (hk : key.length ≤ 1000000) (hC : C.length = 128) (l : List Pt) (hl : l.length ≤ 100) (kv v : Value) (w0 : World) (hkv : BytesAt w0 kv key) (hv : PutsAt w0 v l) :
    Calls Try.prog 41 #[kv, .agg (bvs C), v] w0 fun e w' => e = .returned (.agg (bvs (tagC key C l))) ∧ Below w0.heap.size w0 w' := by
  obtain ⟨ho, p, c, rfl, hc, hp0, hcell⟩ := hv
  have hS := St.start w0
  have sC : csz (bvs C) = 128 := by rw [Bg, hC]
  have s128 : csz (bvs (zs 128)) = 128 := by rw [Bg, zs_len]
  have hbl := bodyL_len ho
  have hCne : C ≠ [] := by intro e; rw [e] at hC; cases hC
  obtain ⟨q, hq⟩ : ∃ q, l.length = q := ⟨_, rfl⟩
  -- where the puts lie
  obtain ⟨b0, o0, hpl⟩ : ∃ b0 o0, (0 < q → p = some ⟨b0, o0, none⟩ ∧ ∃ cs t fr, blk w0 b0 = some (.cells cs t fr) ∧ ∀ j x, (putsC l)[j]? = some x → cs[o0 + j]? = some x) := by
    by_cases hne : l = []
    · exact ⟨0, 0, fun h => by rw [hne] at hq; simp at hq; omega⟩
    · obtain ⟨b, o, cs, t, fr, h1, h2, h3⟩ := hcell hne
      exact ⟨b, o, fun _ => ⟨h1, cs, t, fr, h2, h3⟩⟩
  have hparts : PartsAt w0 ((List.range q).map (pvR b0 o0)) (l.map (·.2)) := by
    by_cases hne : l = []
    · subst hne; simp at hq; subst hq; exact PartsAt.nil w0
    · have h0 : 0 < q := by rw [← hq]; exact List.length_pos_iff.2 hne
      obtain ⟨_, cs, t, fr, h2, h3⟩ := hpl h0
      rw [← hq]; exact parts_of h2 ho h3
  rw [hq] at hc hl hbl ⊢
  have hG := tagL_len key (C ++ bodyL l)
  have hTG : tagC key C l = tagL key (C ++ bodyL l) ++ zs 96 := rfl
  go_enter Try.func41, Try.ntmps41
  repeat' (first | ((with_reducible refine Ac ?_); first | ((first | refine Ai Aa ?_ | refine Al Aa ?_ | refine Af Aa ?_ | refine Ba Aa Ab hS ?_ | refine Ag Aa ?_ | refine Ae Aa ?_ | refine Be Aa ?_ | refine Bd Aa ?_ | refine Ak Aa ?_ | refine Aj Aa ?_ | refine Aw Aa (fun hc => ?_) (fun hc => ?_) | refine Az Aa ?_ | refine Bh Aa ?_ | refine Bc Aa ?_ | refine Au Aa ?_ | refine Ar Aa ?_) <;> refine Ad ?_) | ((first | refine Ay Aa Ab hS ?_ | refine Cu Aa Ab hS ?_ | refine Ao Aa Ab hS ?_ | refine As Aa Ab hS ?_); clear hS; intro b w hS; refine Ad ?_) | ((first | refine Ap Aa Ab hS ?_ | refine Aq Aa Ab hS ?_); clear hS; intro w hS; refine Ad ?_)) | ((fail_if_success (with_reducible refine Ac ?_)); first | go_step | go_step3 | rw [Exit.noGoto_normal] | rw [Exit.noGoto_ret] | rw [Exit.noGoto_exit]))
  rename_i bC y0 bR y1 KK hKK
  go_loopw [7, 8, 15] (fun u7 u8 u15 wr => ∃ (k g c : Nat) (sp : List Value), k ≤ q ∧ u15 = .int .i64 (k : Int) ∧ u7 = .slice (some ⟨g, 0, none⟩) (k + 1) c ∧ k + 1 ≤ c ∧ c ≤ maxLen ∧ sp.length = c - (k + 1) ∧ St w0 wr [(g, ((.slice (some ⟨bC, 0, none⟩) 128 128 :: (List.range k).map (pvR b0 o0)) ++ sp).toArray, 22), (bR, bvs (zs 128), 30), (bC, bvs C, 30)]) (fun _ _ u15 _ => q - (intOf u15).toNat)
  case atStart => exact ⟨0, b, 1, [], by omega, rfl, rfl, by omega, by decide, rfl, hS⟩
  case round =>
    clear hS
    obtain ⟨k, g, c2, sp, hk2, rfl, rfl, k1, k2, k3, hS⟩ := hrel
    have k2' := k2
    unfold maxLen at k2'
    by_cases hlt : k < q
    · obtain ⟨rfl, cs, t, fr, hb, hcc⟩ := hpl (by omega)
      have hpv : pvR b0 o0 k = .slice (some ⟨b0, o0 + k * 129 + 1, none⟩) 128 128 := rfl
      repeat' (first | ((with_reducible refine Ac ?_); first | ((first | refine Ai Aa ?_ | refine Al Aa ?_ | refine Af Aa ?_ | refine Ba Aa Ab hS ?_ | refine Da Aa (by first | exact ((hS).far hb).1) ?_ | refine Ag Aa ?_ | refine Ae Aa ?_ | refine Be Aa ?_ | refine Bd Aa ?_ | refine Ak Aa ?_ | refine Aj Aa ?_ | refine Aw Aa (fun hc => ?_) (fun hc => ?_) | refine Az Aa ?_ | refine Bh Aa ?_ | refine Bc Aa ?_ | refine Au Aa ?_ | refine Ar Aa ?_) <;> refine Ad ?_) | ((first | refine Ay Aa Ab hS ?_ | refine Cu Aa Ab hS ?_ | refine Ao Aa Ab hS ?_ | refine As Aa Ab hS ?_); clear hS; intro b w hS; refine Ad ?_) | ((first | refine Ap Aa Ab hS ?_ | refine Aq Aa Ab hS ?_); clear hS; intro w hS; refine Ad ?_)) | ((fail_if_success (with_reducible refine Ac ?_)); first | go_step | go_step3 | rw [Exit.noGoto_normal] | rw [Exit.noGoto_ret] | rw [Exit.noGoto_exit]))
      refine s_append Aa Ab hS (by rfl) (by rfl) (by rfl) (by rfl) (by infer_instance) (by exact at_ 1 rfl) (olds := .slice (some ⟨bC, 0, none⟩) 128 128 :: (List.range k).map (pvR b0 o0)) (spare := sp) (by rfl) (by simp) k1 (by rw [k3, Nat.mul_one]) (xs := [pvR b0 o0 k]) (src_blk (hS.blk 0 rfl) (fun j v h => by rw [Nat.zero_add]; exact h)) (by rfl) (by intro v hv; simp at hv; subst hv; rfl) (by unfold maxLen; omega) (nm := k + 1 + 1) (by omega) ?_
      clear hS
      intro b' c' sp' w' q1 q2 q3 hS
      replace hS : St w0 w' [(b', ((.slice (some ⟨bC, 0, none⟩) 128 128 :: (List.range (k + 1)).map (pvR b0 o0)) ++ sp').toArray, 22), (bR, bvs (zs 128), 30), (bC, bvs C, 30)] := by
        have := hS.erase 1
        rw [range_snoc]
        exact this
      refine Ad ?_
      repeat' (first | ((with_reducible refine Ac ?_); first | ((first | refine Ai Aa ?_ | refine Al Aa ?_ | refine Af Aa ?_ | refine Ba Aa Ab hS ?_ | refine Ag Aa ?_ | refine Ae Aa ?_ | refine Be Aa ?_ | refine Bd Aa ?_ | refine Ak Aa ?_ | refine Aj Aa ?_ | refine Aw Aa (fun hc => ?_) (fun hc => ?_) | refine Az Aa ?_ | refine Bh Aa ?_ | refine Bc Aa ?_ | refine Au Aa ?_ | refine Ar Aa ?_) <;> refine Ad ?_) | ((first | refine Ay Aa Ab hS ?_ | refine Cu Aa Ab hS ?_ | refine Ao Aa Ab hS ?_ | refine As Aa Ab hS ?_); clear hS; intro b w hS; refine Ad ?_) | ((first | refine Ap Aa Ab hS ?_ | refine Aq Aa Ab hS ?_); clear hS; intro w hS; refine Ad ?_)) | ((fail_if_success (with_reducible refine Ac ?_)); first | go_step | go_step3 | rw [Exit.noGoto_normal] | rw [Exit.noGoto_ret] | rw [Exit.noGoto_exit]))
      go_roundw
      case rel => exact ⟨k + 1, b', c', sp', by omega, by push_cast; rfl, rfl, q1, q2, by rw [q3, Nat.mul_one], hS⟩
      case measure => first | (simp [intOf]; done) | (simp [intOf]; omega)
    · obtain rfl : k = q := by omega
      have hps := PartsAt.cons (bytesAt_whole (hS.blk 2 rfl) hC) hCne (hparts.below hS.below)
      have htg := tag_any key hk kv _ (C :: l.map (·.2)) (by simp) (by rw [flat_body, List.length_append]; omega) g 0 c2 _ _ _ _ (hkv.below hS.below) hps (hS.blk 0 rfl) (fun j v h => by
        rw [Nat.zero_add, List.getElem?_toArray, List.getElem?_append_left (List.getElem?_eq_some_iff.1 h).1]; exact h) (by simp; omega)
      rw [flat_body, show (C :: l.map (·.2)).length = k + 1 by simp [hq]] at htg
      obtain ⟨G, hGG⟩ : ∃ G, tagL key (C ++ bodyL l) = G := ⟨_, rfl⟩
      rw [hGG] at htg hG hTG
      have sG : csz (bvs G) = 32 := by rw [Bg, hG]
      have sZ : csz (bvs (zs 32)) = 32 := by rw [Bg, zs_len]
      have sF : csz (bvs (G ++ zs 96)) = 128 := by rw [Bg, List.length_append, hG, zs_len]
      have lF : (G ++ zs 96).length = 128 := by rw [List.length_append, hG, zs_len]
      have hov : ovw (bvs (zs 128)) 0 (G.take 128) = bvs (G ++ zs 96) := by
        rw [List.take_of_length_le (l := G) (by omega), ovw_bvs, List.take_zero, List.nil_append, hG]
        congr 2
        unfold zs; rw [List.drop_replicate]
      replace hS := hS.erase 0
      repeat' (first | ((with_reducible refine Ac ?_); first | ((first | refine Ai Aa ?_ | refine Al Aa ?_ | refine Af Aa ?_ | refine Ba Aa Ab hS ?_ | refine Ag Aa ?_ | refine Ae Aa ?_ | refine Be Aa ?_ | refine Bd Aa ?_ | refine Ak Aa ?_ | refine Aj Aa ?_ | refine Aw Aa (fun hc => ?_) (fun hc => ?_) | refine Az Aa ?_ | refine Bh Aa ?_ | refine Bc Aa ?_ | refine Au Aa ?_ | refine Ar Aa ?_) <;> refine Ad ?_) | ((first | refine Ay Aa Ab hS ?_ | refine Cu Aa Ab hS ?_ | refine Ao Aa Ab hS ?_ | refine As Aa Ab hS ?_); clear hS; intro b w hS; refine Ad ?_) | ((first | refine Ap Aa Ab hS ?_ | refine Aq Aa Ab hS ?_); clear hS; intro w hS; refine Ad ?_) | (refine Ce Aa Ab hS (htg) ?_; clear hS; intro w hS; refine Ad ?_)) | ((fail_if_success (with_reducible refine Ac ?_)); first | go_step | go_step3 | rw [Exit.noGoto_normal] | rw [Exit.noGoto_ret] | rw [Exit.noGoto_exit]))
      refine Bv 2 (by kernel_rfl) (by kernel_rfl) ?_
      dsimp only [List.take, List.drop]
      iterate 2 (first | (refine Dc (fun _ => rfl) ?_; simp only [Act.put, List.setIfInBounds_toArray, List.set_cons_zero, List.set_cons_succ]) | (refine Cw (by rfl) (fun _ => rfl) _ (fun w => r_alloc (a := ⟨#[], []⟩) rfl (by infer_instance)) ?_; simp only [Act.put, List.setIfInBounds_toArray, List.set_cons_zero, List.set_cons_succ]) | (refine Cr rfl (fun _ => rfl) (fun K hK => ?_); apply Exists.intro; apply Exists.intro; apply Exists.intro; apply Exists.intro; refine ⟨fun pB w' hw' hF => ?_, hK _ _ ?_⟩; (focus (exact Cf (by rfl) (by rfl) (by infer_instance) (by rfl) (by repeat (first | exact (fun _ h => absurd h List.not_mem_nil) | refine List.forall_mem_cons.2 ⟨by first | rfl | (simp only [Value.cells]; first | rfl | omega), ?_⟩)) (by (try conv => lhs; simp only [List.flatMap_cons, List.flatMap_nil, Value.cells, List.append_nil, List.cons_append, List.nil_append]); first | done | rfl) (by decide) (by decide))); clear hK K; simp only [Act.put, List.setIfInBounds_toArray, List.set_cons_zero, List.set_cons_succ]) | (refine Dd (fun _ => rfl) (fun K hK => ?_); apply Exists.intro; refine ⟨fun pB w' hw' hF => ?_, hK _ _ ?_⟩; (focus (have hZ := (Ab).call hS hw'; first | exact q_move | exact Dh | exact q_load1 Ab hZ | exact q_loadR Ab hZ | exact Ci | exact Cb | exact q_len | exact q_cap | exact Cy | exact q_add | exact q_sub | exact q_mul | exact q_quo | exact q_rem | exact q_cmp_t | exact q_cmp_f | exact De | exact Cx | exact Df | exact Cv | exact Ch | exact Di | exact Dg | exact Cm | exact Co | exact Bt | exact Cl | exact q_conv | exact q_pick | exact q_not | exact Db | exact Ct | exact Cc | exact Dk | exact Dl | exact Cs)); clear hK K; simp only [Act.put, List.setIfInBounds_toArray, List.set_cons_zero, List.set_cons_succ]))
      refine wpM_nil ?_
      intro pB w hcq hfq hnq
      replace hS := (Ab).news hS hcq _ (by first | decide | simp) hfq hnq
      first | simp only [List.map_nil, List.nil_append] at hS | simp only [List.map_cons, List.map_nil, List.cons_append, List.nil_append] at hS
      clear hcq hfq hnq
      try dsimp only
      refine s_copy (i := 0) Aa Ab hS (by rfl) (by rfl) (by rfl) (by rfl) (by infer_instance) (by rfl) (bytesAt_whole (hS.blk 1 rfl) hG) (by rw [List.length_take, s128]; omega) hov (by (try conv => lhs; simp only [List.set_cons_zero, List.set_cons_succ, List.eraseIdx_cons_zero, List.eraseIdx_cons_succ]); first | done | rfl) rfl ?_
      clear hS
      intro w hS
      obtain ⟨Y, hY⟩ : ∃ Y, G ++ zs 96 = Y := ⟨_, rfl⟩
      rw [hY] at hS sF lF hTG
      refine Ad ?_
      repeat' (first | ((with_reducible refine Ac ?_); first | ((first | refine Ai Aa ?_ | refine Al Aa ?_ | refine Af Aa ?_ | refine Ba Aa Ab hS ?_ | refine Ag Aa ?_ | refine Ae Aa ?_ | refine Be Aa ?_ | refine Bd Aa ?_ | refine Ak Aa ?_ | refine Aj Aa ?_ | refine Aw Aa (fun hc => ?_) (fun hc => ?_) | refine Az Aa ?_ | refine Bh Aa ?_ | refine Bc Aa ?_ | refine Au Aa ?_ | refine Ar Aa ?_) <;> refine Ad ?_) | ((first | refine Ay Aa Ab hS ?_ | refine Cu Aa Ab hS ?_ | refine Ao Aa Ab hS ?_ | refine As Aa Ab hS ?_); clear hS; intro b w hS; refine Ad ?_) | ((first | refine Ap Aa Ab hS ?_ | refine Aq Aa Ab hS ?_); clear hS; intro w hS; refine Ad ?_)) | ((fail_if_success (with_reducible refine Ac ?_)); first | go_step | go_step3 | rw [Exit.noGoto_normal] | rw [Exit.noGoto_ret] | rw [Exit.noGoto_exit]))
      exact post_cell (n := 128) Try.results41 (by kernel_rfl) (.inl rfl) _ _ _ _ rfl rfl (hS.blk 2 rfl) (by rw [← csz_is]; exact sF) ⟨by rw [hTG], hS.below⟩
end Go.Proofs.Ytcjncidahjneaaa

namespace Go.Proofs.Ytcjncidahjneaaa
open Go.ChangeShapes Go.WideShapes Go.ChangeAt Go.RowKit
attribute [local irreducible] wpList wpListIn Oper.quietAt wpM
attribute [local irreducible] tagL
theorem rdSound_t (l : List Pt) (hl : l.length ≤ 1000) (hs : soundP l) (v : Value) (w0 : World) (hv : PutsAt w0 v l) : Calls Try.prog 39 #[v] w0 fun e w' => e = .returned (.bool true) ∧ Below w0.heap.size w0 w' := by
  refine (rdSound_any l hl v w0 hv).mono ?_
  rintro e w' ⟨b, rfl, h, hB⟩
  exact ⟨by rw [h.2 hs], hB⟩
theorem rdSound_f (l : List Pt) (hl : l.length ≤ 1000) (hs : ¬ soundP l) (v : Value) (w0 : World) (hv : PutsAt w0 v l) : Calls Try.prog 39 #[v] w0 fun e w' => e = .returned (.bool false) ∧ Below w0.heap.size w0 w' := by
  refine (rdSound_any l hl v w0 hv).mono ?_
  rintro e w' ⟨b, rfl, h, hB⟩
  cases b with
  | false => exact ⟨rfl, hB⟩
  | true => exact absurd (h.1 rfl) hs
/-- An entry's sectors, one behind the other. -/
def encL (key : List UInt8) (n : Int) (l : List Pt) : List UInt8 := firstC n l ++ (tagC key (firstC n l) l ++ bodyL l)
theorem firstC_len (n : Int) {l : List Pt} (h : l.length ≤ 56) : (firstC n l).length = 128 := by unfold firstC; rw [List.length_append, zs_len, firstT_len]; omega
set_option maxRecDepth 100000 in
set_option maxHeartbeats 2000000 in
theorem encode_bad (n : Int) (l : List Pt) (hl : l.length ≤ 1000) (hbad : n < 0 ∨ ¬ soundP l) (kv v : Value) (w0 : World) (hv : PutsAt w0 v l) :
    Calls Try.prog 16 #[kv, .int .i64 n, v] w0 fun e w' => e = .returned (.tuple #[.slice none 0 0, .iface 40 (.int .i64 2)]) ∧ Below w0.heap.size w0 w' := by
  have hS := St.start w0
  by_cases hn : n < 0
  · go_enter Try.func16, Try.ntmps16
    repeat' (first | ((with_reducible refine Ac ?_); first | ((first | refine Ai Aa ?_ | refine Al Aa ?_ | refine Af Aa ?_ | refine Ba Aa Ab hS ?_ | refine Ag Aa ?_ | refine Ae Aa ?_ | refine Be Aa ?_ | refine Bl Aa ?_ | refine Bd Aa ?_ | refine Ak Aa ?_ | refine Aj Aa ?_ | refine Aw Aa (fun hc => ?_) (fun hc => ?_) | refine Cg Aa ?_ | refine Bz Aa ?_ | refine Az Aa ?_ | refine Bu Aa ?_ | refine Ax Aa ?_ | refine Bk Aa ?_ | refine Bw Aa ?_ | refine Ar Aa ?_) <;> refine Ad ?_) | ((first | refine Ay Aa Ab hS ?_ | refine Ao Aa Ab hS ?_ | refine As Aa Ab hS ?_); clear hS; intro b w hS; refine Ad ?_) | ((first | refine Ap Aa Ab hS ?_ | refine Aq Aa Ab hS ?_); clear hS; intro w hS; refine Ad ?_)) | ((fail_if_success (with_reducible refine Ac ?_)); first | go_step | go_step3 | rw [Exit.noGoto_normal] | rw [Exit.noGoto_ret] | rw [Exit.noGoto_exit]))
    go_ret2
    exact ⟨rfl, hS.below⟩
  · have hs : ¬ soundP l := by
      rcases hbad with h | h
      · exact absurd h hn
      · exact h
    have hsd := fun w hv => rdSound_f l hl hs v w hv
    go_enter Try.func16, Try.ntmps16
    repeat' (first | ((with_reducible refine Ac ?_); first | ((first | refine Ai Aa ?_ | refine Al Aa ?_ | refine Af Aa ?_ | refine Ba Aa Ab hS ?_ | refine Ag Aa ?_ | refine Ae Aa ?_ | refine Be Aa ?_ | refine Bl Aa ?_ | refine Bd Aa ?_ | refine Ak Aa ?_ | refine Aj Aa ?_ | refine Aw Aa (fun hc => ?_) (fun hc => ?_) | refine Cg Aa ?_ | refine Bz Aa ?_ | refine Az Aa ?_ | refine Bu Aa ?_ | refine Ax Aa ?_ | refine Bk Aa ?_ | refine Bw Aa ?_ | refine Ar Aa ?_) <;> refine Ad ?_) | ((first | refine Ay Aa Ab hS ?_ | refine Ao Aa Ab hS ?_ | refine As Aa Ab hS ?_); clear hS; intro b w hS; refine Ad ?_) | ((first | refine Ap Aa Ab hS ?_ | refine Aq Aa Ab hS ?_); clear hS; intro w hS; refine Ad ?_) | (refine Ce Aa Ab hS (hsd _ (hv.below hS.below)) ?_; clear hS; intro w hS; refine Ad ?_)) | ((fail_if_success (with_reducible refine Ac ?_)); first | go_step | go_step3 | rw [Exit.noGoto_normal] | rw [Exit.noGoto_ret] | rw [Exit.noGoto_exit]))
    go_ret2
    exact ⟨rfl, hS.below⟩
set_option maxRecDepth 100000 in
set_option maxHeartbeats 4000000 in
theorem encode_good (key : List UInt8) (hk : key.length ≤ 1000000) (n : Int) (hn : 0 ≤ n) (l : List Pt) (hs : soundP l) (kv v : Value) (w0 : World) (hkv : BytesAt w0 kv key) (hv : PutsAt w0 v l) :
    Calls Try.prog 16 #[kv, .int .i64 n, v] w0 fun e w' => ∃ g c sp, e = .returned (.tuple #[.slice (some ⟨g, 0, none⟩) (l.length + 2) c, .nilIface]) ∧ l.length + 2 ≤ c ∧ c ≤ maxLen ∧ sp.length = (c - (l.length + 2)) * 128 ∧ w0.heap.size ≤ g ∧ blk w' g = some (.cells ((encL key n l).map bv ++ sp).toArray 30 (0, 0)) ∧ Below w0.heap.size w0 w' := by
  have hS := St.start w0
  have h56 := hs.2.2
  have hn' : ¬ n < 0 := by omega
  have hsd := fun w hv => rdSound_t l (by omega) hs v w hv
  have hfi := fun w hv => first_any n l hs v w hv
  have lF := firstC_len n h56
  have hE : encL key n l = firstC n l ++ (tagC key (firstC n l) l ++ bodyL l) := rfl
  have htg := fun w h1 h2 => rdTag_any key (firstC n l) hk lF l (by omega) kv v w h1 h2
  have lT := tagC_len key (firstC n l) l
  obtain ⟨Y, hY⟩ : ∃ Y, firstC n l = Y := ⟨_, rfl⟩
  rw [hY] at hfi lF hE htg lT
  obtain ⟨T, hT⟩ : ∃ T, tagC key Y l = T := ⟨_, rfl⟩
  rw [hT] at hE htg lT
  clear hY hT
  have sY : csz (bvs Y) = 128 := by rw [Bg, lF]
  have sT : csz (bvs T) = 128 := by rw [Bg, lT]
  have s128 : csz (bvs (zs 128)) = 128 := by rw [Bg, zs_len]
  obtain ⟨ho, p, c, rfl, hc, hp0, hcell⟩ := id hv
  obtain ⟨q, hq⟩ : ∃ q, l.length = q := ⟨_, rfl⟩
  rw [hq] at hc h56 hv hsd hfi htg ⊢
  go_enter Try.func16, Try.ntmps16
  repeat' (first | ((with_reducible refine Ac ?_); first | ((first | refine Ai Aa ?_ | refine Al Aa ?_ | refine Af Aa ?_ | refine Ba Aa Ab hS ?_ | refine Ag Aa ?_ | refine Ae Aa ?_ | refine Be Aa ?_ | refine Bl Aa ?_ | refine Bd Aa ?_ | refine Ak Aa ?_ | refine Aj Aa ?_ | refine Aw Aa (fun hc => ?_) (fun hc => ?_) | refine Cg Aa ?_ | refine Bz Aa ?_ | refine Az Aa ?_ | refine Bu Aa ?_ | refine Ax Aa ?_ | refine Bk Aa ?_ | refine Bw Aa ?_ | refine Ar Aa ?_) <;> refine Ad ?_) | ((first | refine Ay Aa Ab hS ?_ | refine Ao Aa Ab hS ?_ | refine As Aa Ab hS ?_); clear hS; intro b w hS; refine Ad ?_) | ((first | refine Ap Aa Ab hS ?_ | refine Aq Aa Ab hS ?_); clear hS; intro w hS; refine Ad ?_) | (refine Ce Aa Ab hS (hsd _ (hv.below hS.below)) ?_; clear hS; intro w hS; refine Ad ?_) | (refine Ce Aa Ab hS (hfi _ (hv.below hS.below)) ?_; clear hS; intro w hS; refine Ad ?_)) | ((fail_if_success (with_reducible refine Ac ?_)); first | go_step | go_step3 | rw [Exit.noGoto_normal] | rw [Exit.noGoto_ret] | rw [Exit.noGoto_exit]))
  refine Bv 5 (by kernel_rfl) (by kernel_rfl) ?_
  dsimp only [List.take, List.drop]
  iterate 5 (first | (refine Dc (fun _ => rfl) ?_; simp only [Act.put, List.setIfInBounds_toArray, List.set_cons_zero, List.set_cons_succ]) | (refine Cw (by rfl) (fun _ => rfl) _ (fun w => r_alloc (a := ⟨#[], []⟩) rfl (by infer_instance)) ?_; simp only [Act.put, List.setIfInBounds_toArray, List.set_cons_zero, List.set_cons_succ]) | (refine Cr rfl (fun _ => rfl) (fun K hK => ?_); apply Exists.intro; apply Exists.intro; apply Exists.intro; apply Exists.intro; refine ⟨fun pB w' hw' hF => ?_, hK _ _ ?_⟩; (focus (exact Cf (by rfl) (by rfl) (by infer_instance) (by rfl) (by repeat (first | exact (fun _ h => absurd h List.not_mem_nil) | refine List.forall_mem_cons.2 ⟨by first | rfl | (simp only [Value.cells]; first | rfl | omega), ?_⟩)) (by (try conv => lhs; simp only [List.flatMap_cons, List.flatMap_nil, Value.cells, List.append_nil, List.cons_append, List.nil_append]); first | done | rfl) (by decide) (by decide))); clear hK K; simp only [Act.put, List.setIfInBounds_toArray, List.set_cons_zero, List.set_cons_succ]) | (refine Dd (fun _ => rfl) (fun K hK => ?_); apply Exists.intro; refine ⟨fun pB w' hw' hF => ?_, hK _ _ ?_⟩; (focus (have hZ := (Ab).call hS hw'; first | exact (g_qcall (htg _ (hkv.below hZ.below) (hv.below hZ.below))) | exact q_move | exact Dh | exact q_load1 Ab hZ | exact q_loadR Ab hZ | exact Ci | exact Cb | exact q_len | exact q_cap | exact Cy | exact q_add | exact q_sub | exact q_mul | exact q_quo | exact q_rem | exact q_cmp_t | exact q_cmp_f | exact De | exact Cx | exact Df | exact Cv | exact Ch | exact Di | exact Dg | exact Cm | exact Co | exact Bt | exact Cl | exact q_conv | exact q_pick | exact q_not | exact Db | exact Ct | exact Cc | exact Dk | exact Dl | exact Cs)); clear hK K; simp only [Act.put, List.setIfInBounds_toArray, List.set_cons_zero, List.set_cons_succ]))
  refine wpM_nil ?_
  intro pB w hcq hfq hnq
  replace hS := (Ab).news hS hcq _ (by first | decide | simp) hfq hnq
  first | simp only [List.map_nil, List.nil_append] at hS | simp only [List.map_cons, List.map_nil, List.cons_append, List.nil_append] at hS
  clear hcq hfq hnq
  try dsimp only
  refine As Aa Ab hS ?_ (h1 := by
    intro v hv
    simp only [List.mem_cons, List.not_mem_nil, or_false] at hv
    rcases hv with rfl | rfl
    · show (bvs Y).size = 128
      rw [← csz_is]; exact sY
    · show (bvs T).size = 128
      rw [← csz_is]; exact sT)
  clear hS
  intro b w hS
  refine Ad ?_
  have e0 : ((bvs Y).toList ++ (bvs T).toList).toArray = ((Y ++ (T ++ bodyL (l.take 0))).map bv ++ []).toArray := by simp [bvs, bodyL]
  have s2 : csz (hdV 0 (zs 128)) = 129 := by rw [hdV_size, zs_len]
  repeat' (first | ((with_reducible refine Ac ?_); first | ((first | refine Ai Aa ?_ | refine Al Aa ?_ | refine Af Aa ?_ | refine Ba Aa Ab hS ?_ | refine Ag Aa ?_ | refine Ae Aa ?_ | refine Be Aa ?_ | refine Bl Aa ?_ | refine Bd Aa ?_ | refine Ak Aa ?_ | refine Aj Aa ?_ | refine Aw Aa (fun hc => ?_) (fun hc => ?_) | refine Cg Aa ?_ | refine Bz Aa ?_ | refine Az Aa ?_ | refine Bu Aa ?_ | refine Ax Aa ?_ | refine Bk Aa ?_ | refine Bw Aa ?_ | refine Ar Aa ?_) <;> refine Ad ?_) | ((first | refine Ay Aa Ab hS ?_ | refine Ao Aa Ab hS ?_ | refine As Aa Ab hS ?_); clear hS; intro b w hS; refine Ad ?_) | ((first | refine Ap Aa Ab hS ?_ | refine Aq Aa Ab hS ?_); clear hS; intro w hS; refine Ad ?_)) | ((fail_if_success (with_reducible refine Ac ?_)); first | go_step | go_step3 | rw [Exit.noGoto_normal] | rw [Exit.noGoto_ret] | rw [Exit.noGoto_exit]))
  go_loopw [10, 12, 38] (fun u10 u12 u38 wr => ∃ (k g c : Nat) (sp : List Value), k ≤ q ∧ u38 = .int .i64 (k : Int) ∧ u10 = .slice (some ⟨g, 0, none⟩) (k + 2) c ∧ k + 2 ≤ c ∧ c ≤ maxLen ∧ sp.length = (c - (k + 2)) * 128 ∧ St w0 wr [(g, ((Y ++ (T ++ bodyL (l.take k))).map bv ++ sp).toArray, 30)]) (fun _ _ u38 _ => q - (intOf u38).toNat)
  case atStart => exact ⟨0, b, 2, [], by omega, rfl, rfl, by omega, by decide, rfl, by rw [← e0]; exact hS.take 1⟩
  case round =>
    clear hS
    obtain ⟨k, g, c2, sp, hk2, rfl, rfl, k1, k2, k3, hS⟩ := hrel
    have k2' := k2
    unfold maxLen at k2'
    by_cases hlt : k < q
    · obtain ⟨⟨a, C⟩, hx⟩ : ∃ x, l[k]? = some x := ⟨_, List.getElem?_eq_getElem (by omega)⟩
      obtain ⟨b0, o0, cs, ty, fr, rfl, hb, hcc⟩ := hcell (by intro e; rw [e] at hq; simp at hq; omega)
      obtain ⟨lC, d1, d2, d3, d4⟩ := put_cells ho hcc hx
      have s1 : csz (hdV a C) = 129 := by rw [hdV_size, lC]
      have sC : csz (bvs C) = 128 := by rw [Bg, lC]
      have hcut : cut (hdV a C) 1 128 = bvs C := by
        have := hd_cut a (B := C) (o := 0) (m := 128) (by omega)
        rwa [List.drop_zero, List.take_of_length_le (by omega)] at this
      have hbd : bodyL (l.take (k + 1)) = bodyL (l.take k) ++ C := by
        unfold bodyL
        rw [List.take_add_one, hx, List.flatMap_append]
        simp
      have hlk : (Y ++ (T ++ bodyL (l.take k))).length = (k + 2) * 128 := by
        rw [List.length_append, List.length_append, lF, lT, bodyL_len (fun x hx' => ho x (List.mem_of_mem_take hx')), List.length_take]; omega
      obtain ⟨Z, hZ⟩ : ∃ Z, Y ++ (T ++ bodyL (l.take k)) = Z := ⟨_, rfl⟩
      rw [hZ] at hS hlk
      have hZ2 : Z ++ C = Y ++ (T ++ bodyL (l.take (k + 1))) := by rw [hbd, ← hZ]; simp only [List.append_assoc]
      repeat' (first | ((with_reducible refine Ac ?_); first | (refine Ap Aa Ab hS ?_ (hv := hdV_ones _ _); clear hS; intro w hS; refine Ad ?_) | (refine As Aa Ab hS ?_ (h1 := by intro v hv; simp only [List.mem_cons, List.not_mem_nil, or_false] at hv; subst hv; show (bvs C).size = 128; rw [← csz_is]; exact sC); clear hS; intro b w hS; refine Ad ?_) | ((first | refine Ai Aa ?_ | refine Al Aa ?_ | refine Af Aa ?_ | refine Ba Aa Ab hS ?_ (hv := by first | exact Bo _ _ (by (try simp only [Bn, Bg, Bm, List.length_append, List.length_set, zs_len, List.length_take, List.length_drop, List.length_cons, List.length_nil]); first | done | rfl | omega) | (first | exact d2 | exact hcut) | rfl) | refine Da Aa (by first | exact ((hS).far hb).1) ?_ (hv := by first | exact Bo _ _ (by (try simp only [Bn, Bg, Bm, List.length_append, List.length_set, zs_len, List.length_take, List.length_drop, List.length_cons, List.length_nil]); first | done | rfl | omega) | (first | exact d2 | exact hcut) | rfl) | refine Ag Aa ?_ | refine Ae Aa ?_ | refine Be Aa ?_ | refine Bl Aa ?_ | refine Bd Aa ?_ | refine Ak Aa ?_ | refine Aj Aa ?_ | refine Aw Aa (fun hc => ?_) (fun hc => ?_) | refine Cg Aa ?_ | refine Bz Aa ?_ | refine Az Aa ?_ | refine Bu Aa ?_ | refine Ax Aa ?_ | refine Bk Aa ?_ | refine Bw Aa ?_ | refine Ar Aa ?_) <;> refine Ad ?_) | ((first | refine Ay Aa Ab hS ?_ | refine Ao Aa Ab hS ?_ | refine As Aa Ab hS ?_); clear hS; intro b w hS; refine Ad ?_) | ((first | refine Ap Aa Ab hS ?_ | refine Aq Aa Ab hS ?_); clear hS; intro w hS; refine Ad ?_)) | ((fail_if_success (with_reducible refine Ac ?_)); first | go_step | go_step3 | rw [Exit.noGoto_normal] | rw [Exit.noGoto_ret] | rw [Exit.noGoto_exit]))
      refine s_append Aa Ab hS (by rfl) (by rfl) (by rfl) (by rfl) (by infer_instance) (by exact at_ 2 rfl) (olds := Z.map bv) (spare := sp) (by rfl) (by rw [List.length_map, hlk]) k1 k3 (xs := C.map bv) (src_blk (hS.blk 0 rfl) (fun j v h => by rw [Nat.zero_add]; exact h)) (by rw [List.length_map, lC]) (bv_one C) (by unfold maxLen; omega) (nm := k + 1 + 2) (by omega) ?_
      clear hS
      intro b' c' sp' w' q1 q2 q3 hS
      rw [← List.map_append, hZ2] at hS
      replace hS := hS.take 1
      refine Ad ?_
      repeat' (first | ((with_reducible refine Ac ?_); first | ((first | refine Ai Aa ?_ | refine Al Aa ?_ | refine Af Aa ?_ | refine Ba Aa Ab hS ?_ | refine Ag Aa ?_ | refine Ae Aa ?_ | refine Be Aa ?_ | refine Bl Aa ?_ | refine Bd Aa ?_ | refine Ak Aa ?_ | refine Aj Aa ?_ | refine Aw Aa (fun hc => ?_) (fun hc => ?_) | refine Cg Aa ?_ | refine Bz Aa ?_ | refine Az Aa ?_ | refine Bu Aa ?_ | refine Ax Aa ?_ | refine Bk Aa ?_ | refine Bw Aa ?_ | refine Ar Aa ?_) <;> refine Ad ?_) | ((first | refine Ay Aa Ab hS ?_ | refine Ao Aa Ab hS ?_ | refine As Aa Ab hS ?_); clear hS; intro b w hS; refine Ad ?_) | ((first | refine Ap Aa Ab hS ?_ | refine Aq Aa Ab hS ?_); clear hS; intro w hS; refine Ad ?_)) | ((fail_if_success (with_reducible refine Ac ?_)); first | go_step | go_step3 | rw [Exit.noGoto_normal] | rw [Exit.noGoto_ret] | rw [Exit.noGoto_exit]))
      go_roundw
      case rel => exact ⟨k + 1, b', c', sp', by omega, by push_cast; rfl, rfl, q1, q2, q3, hS⟩
      case measure => first | (simp [intOf]; done) | (simp [intOf]; omega)
    · obtain rfl : k = q := by omega
      have htl : l.take k = l := List.take_of_length_le (by omega)
      rw [htl] at hS
      repeat' (first | ((with_reducible refine Ac ?_); first | ((first | refine Ai Aa ?_ | refine Al Aa ?_ | refine Af Aa ?_ | refine Ba Aa Ab hS ?_ | refine Ag Aa ?_ | refine Ae Aa ?_ | refine Be Aa ?_ | refine Bl Aa ?_ | refine Bd Aa ?_ | refine Ak Aa ?_ | refine Aj Aa ?_ | refine Aw Aa (fun hc => ?_) (fun hc => ?_) | refine Cg Aa ?_ | refine Bz Aa ?_ | refine Az Aa ?_ | refine Bu Aa ?_ | refine Ax Aa ?_ | refine Bk Aa ?_ | refine Bw Aa ?_ | refine Ar Aa ?_) <;> refine Ad ?_) | ((first | refine Ay Aa Ab hS ?_ | refine Ao Aa Ab hS ?_ | refine As Aa Ab hS ?_); clear hS; intro b w hS; refine Ad ?_) | ((first | refine Ap Aa Ab hS ?_ | refine Aq Aa Ab hS ?_); clear hS; intro w hS; refine Ad ?_)) | ((fail_if_success (with_reducible refine Ac ?_)); first | go_step | go_step3 | rw [Exit.noGoto_normal] | rw [Exit.noGoto_ret] | rw [Exit.noGoto_exit]))
      go_ret2
      exact ⟨g, c2, sp, rfl, k1, k2, k3, hS.low 0 rfl, by rw [hE]; exact hS.blk 0 rfl, hS.below⟩
end Go.Proofs.Ytcjncidahjneaaa
