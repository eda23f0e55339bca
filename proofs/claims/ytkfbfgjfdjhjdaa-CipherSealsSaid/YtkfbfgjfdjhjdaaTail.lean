/-
  A region that draws its order, whose operations read and call what turns nothing below, but for its last one, which waits for all others: one walk in the order of the text serves every order. Lemmas alone.
-/
import Derived.Test.YtkfbfgjfdjhjdaaAgg
namespace Go.Proofs.Ytkfbfgjfdjhjdaa
open Go.RowKit

section
variable {P : Program} {md : Region.Mode} {C : World → Prop}

theorem wpQuiet_app {ops : Array Oper} {Q Q2 : Act → Prop} {l1 : List Oper} (hq : ∀ a, Q a → wpQuiet P ops C Q2 l1 a) : ∀ (l0 : List Oper) (a : Act), wpQuiet P ops C Q l0 a → wpQuiet P ops C Q2 (l0 ++ l1) a
  | [], a, h => hq a h
  | o :: l0, a, h => by
    simp only [wpQuiet, List.cons_append] at h ⊢
    split
    · rename_i hw; rw [if_pos hw] at h; exact Oper.quiet_mono (fun a' h' => wpQuiet_app hq l0 a' h') h
    · rename_i hw; rw [if_neg hw] at h; exact wpQuiet_app hq l0 _ h

theorem ready_none {ops : Array Oper} {Q : Exit → Act → World → Prop} {listed : Array Bool} {a : Act} {w : World} (hr : Region.ready md ops listed = []) (hQ : Q .normal a w) : ∀ fuel, wpAny P md ops Q fuel listed a w
  | 0 => ⟨hr, hQ⟩
  | _ + 1 => ⟨fun _ => hQ, fun i hi => by rw [hr] at hi; cases hi⟩

/-- Every operation waits for earlier ones alone. -/
def downB (md : Region.Mode) (l : List Oper) : Bool := (List.range l.length).all fun i => match l[i]? with | some o => o.after.all fun e => !Region.binds md e || decide (e.on < i) | none => true
/-- The last operation waits for each of the others. -/
def lastB (md : Region.Mode) (n : Nat) (t : Oper) : Bool := (List.range n).all fun i => t.after.any fun e => Region.binds md e && e.on == i

theorem some_ready {l : List Oper} (hd : downB md l = true) {listed : Array Bool} (hsz : listed.size = l.length) : ∀ m, m < l.length → listed.getD m true = false → Region.ready md l.toArray listed ≠ [] := by
  intro m
  induction m using Nat.strongRecOn with
  | _ m ih =>
    intro hm hun
    have ho : l.toArray[m]? = some l[m] := by simp [hm]
    by_cases hall : ∀ e ∈ l[m].after, Region.binds md e = true → listed.getD e.on false = true
    · intro h0
      have : m ∈ Region.ready md l.toArray listed := mem_ready.2 ⟨hun, l[m], ho, hall⟩
      rw [h0] at this; cases this
    · simp only [Classical.not_forall] at hall
      obtain ⟨e, he, hb, hl⟩ := hall
      have h1 := List.all_eq_true.1 hd m (List.mem_range.2 hm)
      rw [List.getElem?_eq_getElem hm] at h1
      have h2 := Array.all_eq_true_iff_forall_mem.1 h1 e he
      simp only [hb, Bool.not_true, Bool.false_or, decide_eq_true_eq] at h2
      refine ih e.on h2 (by omega) ?_
      have h3 : e.on < listed.size := by omega
      simp only [Array.getD, h3, dif_pos] at hl ⊢
      simpa using hl

/-- The last operation, struck. -/
def struck (t : Oper) : Oper := { t with op := .move (.const (.bool false)), guard := none }

theorem at_struck (l : List Oper) (t : Oper) (i : Nat) (hi : i ≠ l.length) : (l ++ [struck t]).toArray[i]? = (l ++ [t]).toArray[i]? := by
  simp only [List.getElem?_toArray]
  rcases Nat.lt_or_ge i l.length with h | h
  · rw [List.getElem?_append_left h, List.getElem?_append_left h]
  · rw [List.getElem?_eq_none (by simp; omega), List.getElem?_eq_none (by simp; omega)]
theorem at_last (l : List Oper) (t : Oper) : (l ++ [t]).toArray[l.length]? = some t := by simp

theorem ready_struck (l : List Oper) (t : Oper) (listed : Array Bool) : Region.ready md (l ++ [struck t]).toArray listed = Region.ready md (l ++ [t]).toArray listed := by
  unfold Region.ready
  simp only [List.size_toArray, List.length_append, List.length_cons, List.length_nil]
  refine List.filter_congr fun i _ => ?_
  by_cases hi : i = l.length
  · subst hi; rw [at_last, at_last]; rfl
  · rw [at_struck l t i hi]
theorem yielded_struck (l : List Oper) (t : Oper) (tmps : Array Value) (j : Nat) : yielded (l ++ [struck t]).toArray tmps j = yielded (l ++ [t]).toArray tmps j := by
  unfold yielded
  by_cases hi : j = l.length
  · subst hi; rw [at_last, at_last]; rfl
  · rw [at_struck l t j hi]
theorem qOp_struck (l : List Oper) (t : Oper) (i : Nat) (hi : i ≠ l.length) (K : Act → Prop) (a : Act) (h : qOp P (l ++ [struck t]).toArray C i K a) : qOp P (l ++ [t]).toArray C i K a := by
  unfold qOp at *
  rw [at_struck l t i hi, show yielded (l ++ [struck t]).toArray a.tmps = yielded (l ++ [t]).toArray a.tmps from funext (yielded_struck l t a.tmps)] at h
  exact h

theorem put_none (a : Act) (v : Value) : a.put none v = a := rfl

theorem any_of_struck {Q : Exit → Act → World → Prop} {l : List Oper} {t : Oper} (htd : t.dst = none) (hdn : downB md (l ++ [t]) = true) (hla : lastB md l.length t = true) :
    ∀ (fuel : Nat) (listed : Array Bool) (a : Act), listed.size = l.length + 1 → listed.getD l.length true = false →
      wpAnyQ P md (l ++ [struck t]).toArray C (fun a' => ∀ w', C w' → wpList P (l ++ [t]).toArray Q [t] a' w') fuel listed a → ∀ w, C w → wpAny P md (l ++ [t]).toArray Q fuel listed a w
  | 0, listed, a, hsz, hun, h, w, hw => by
    have h1 := h.1
    rw [ready_struck] at h1
    exact absurd h1 (some_ready hdn (by simpa using hsz) l.length (by simp) hun)
  | fuel + 1, listed, a, hsz, hun, h, w, hw => by
    refine ⟨fun h0 => absurd h0 (some_ready hdn (by simpa using hsz) l.length (by simp) hun), fun i hi => ?_⟩
    have h2 := h.2 i (by rw [ready_struck]; exact hi)
    by_cases hil : i = l.length
    · subst hil
      obtain ⟨v, _, hK⟩ := yieldsIn_of_qOp (at_last l (struck t)) h2
      rw [show (struck t).dst = none from htd, put_none] at hK
      -- all others are listed, and so nothing is left
      have hr : Region.ready md (l ++ [t]).toArray (listed.setIfInBounds l.length true) = [] := by
        obtain ⟨_, o, ho, hall⟩ := mem_ready.1 hi
        rw [at_last] at ho
        have e : t = o := Option.some.inj ho
        subst e
        rw [List.eq_nil_iff_forall_not_mem]
        intro k hk
        obtain ⟨hku, ok, hok, _⟩ := mem_ready.1 hk
        have hkl : k < l.length + 1 := by
          have := (Array.getElem?_eq_some_iff.1 hok).1
          simpa using this
        by_cases hke : k = l.length
        · subst hke
          simp [Array.getD, hsz] at hku
        · have h3 := List.all_eq_true.1 hla k (List.mem_range.2 (by omega))
          obtain ⟨e, he, hb⟩ := Array.any_eq_true'.1 h3
          simp only [Bool.and_eq_true, beq_iff_eq] at hb
          have h4 := hall e he hb.1
          rw [hb.2] at h4
          have hks : k < listed.size := by omega
          rw [getD_set_ne true (fun h => hke h.symm)] at hku
          simp only [Array.getD, hks, dif_pos] at h4 hku
          rw [h4] at hku; cases hku
      have hR : ∀ w', C w' → wpList P (l ++ [t]).toArray Q [t] a w' := by
        cases fuel with
        | zero => exact hK.2
        | succ f => exact hK.1 (by rw [ready_struck]; exact hr)
      have h7 : wpOp P (l ++ [t]).toArray Q l.length (wpList P (l ++ [t]).toArray Q []) a w := by
        unfold wpOp
        rw [at_last]
        exact hR w hw
      exact wpOp_mono (fun a' w' h' => ready_none hr h' fuel) h7
    · have h3 := qOp_struck l t i hil _ a h2
      refine wpOp_of_qOp hw (fun a' w' hw' hK => any_of_struck htd hdn hla fuel _ a' (by simpa using hsz) ?_ hK w' hw') h3
      rw [getD_set_ne true hil]
      exact hun
end

/-- The region. -/
theorem region_tail {P : Program} {id : Nat} {Q : Exit → Act → World → Prop} {a : Act} {w : World} (l : List Oper) (t : Oper) (hm : P.follows .mixedOrders = true) (htd : t.dst = none)
    (hB : (Region.lexB .any (l ++ [struck t]).toArray && downB .any (l ++ [t]) && lastB .any l.length t) = true)
    (h : wpQuiet P (l ++ [struck t]).toArray (Cls w) (fun a' => ∀ w', Cls w w' → wpList P (l ++ [t]).toArray Q [t] a' w') l a) : (Code.region id (l ++ [t]).toArray true).wp P Q a w := by
  simp only [Bool.and_eq_true] at hB
  obtain ⟨⟨hlex, hdn⟩, hla⟩ := hB
  simp only [Region.lexB, Bool.and_eq_true] at hlex
  have h1 : wpQuiet P (l ++ [struck t]).toArray (Cls w) (fun a' => ∀ w', Cls w w' → wpList P (l ++ [t]).toArray Q [t] a' w') (l ++ [struck t]) a :=
    wpQuiet_app (fun a' ha' => BigFrame.wpQuiet_want rfl fun K hK => BigFrame.quiet_move (.const (.bool false)) rfl (hK _ (by rw [show (struck t).dst = none from htd, put_none]; exact ha'))) l a h
  have h2 := wpAnyQ_lex (C := Cls w) (md := .any) hlex.1 (l ++ [struck t]) 0 (Array.replicate (l.length + 1) false) a (by simp) (by simpa using hlex.2) h1
  refine wp_region_any hm ?_
  have h3 := any_of_struck htd hdn hla _ _ a (by simp) (by simp [Array.getD]) h2 { w with drawn := w.drawn + 1 } ⟨rfl, rfl, rfl, Nat.le_refl _, fun _ _ => rfl⟩
  simpa using h3
theorem wpQuiet_struck {P : Program} {C : World → Prop} (l : List Oper) (t : Oper) (Q : Act → Prop) : ∀ (r : List Oper) (a : Act), wpQuiet P (l ++ [t]).toArray C Q r a → wpQuiet P (l ++ [struck t]).toArray C Q r a
  | [], _, h => h
  | o :: r, a, h => by
    simp only [wpQuiet] at h ⊢
    rw [show yielded (l ++ [struck t]).toArray a.tmps = yielded (l ++ [t]).toArray a.tmps from funext (yielded_struck l t a.tmps)]
    split
    · rename_i hw; rw [if_pos hw] at h; exact Oper.quiet_mono (fun a' h' => wpQuiet_struck l t Q r a' h') h
    · rename_i hw; rw [if_neg hw] at h; exact wpQuiet_struck l t Q r _ h

def tailB (l : List Oper) : Bool := match l.getLast? with
  | some t => (match t.dst with | none => true | some _ => false) && Region.lexB .any (l.dropLast ++ [struck t]).toArray && downB .any l && lastB .any l.dropLast.length t
  | none => false

/-- The region, its operations written out: the last one, a store, waits for all others. -/
theorem region_tail_lit {P : Program} {id : Nat} {Q : Exit → Act → World → Prop} {a : Act} {w : World} {l : List Oper} (hm : P.follows .mixedOrders = true) (hB : tailB l = true)
    (h : wpQuiet P l.toArray (Cls w) (fun a' => ∀ w', Cls w w' → wpList P l.toArray Q [l.getLast?.getD default] a' w') l.dropLast a) : (Code.region id l.toArray true).wp P Q a w := by
  unfold tailB at hB
  cases hl : l.getLast? with
  | none => simp [hl] at hB
  | some t =>
    simp only [hl, Bool.and_eq_true] at hB
    obtain ⟨⟨⟨h1, h2⟩, h3⟩, h4⟩ := hB
    have htd : t.dst = none := by cases hd : t.dst <;> simp_all
    have e : l = l.dropLast ++ [t] := by
      have hne : l ≠ [] := by intro h0; subst h0; cases hl
      have := List.dropLast_concat_getLast hne
      rw [List.getLast?_eq_some_getLast hne] at hl
      rw [Option.some.inj hl] at this
      exact this.symm
    simp only [hl, Option.getD_some] at h
    generalize l.dropLast = l0 at *
    subst e
    exact region_tail l0 t hm htd (by simp only [Bool.and_eq_true]; exact ⟨⟨h2, h3⟩, h4⟩) (wpQuiet_struck l0 t _ _ _ h)

/-! ### The blocks of one's own, in a world of which no more is known -/
/-- Since one's own call began nothing has turned below; and of one's own blocks these hold these cells. -/
def St (w0 wr : World) (L : List (Nat × Array Value × TypeId)) : Prop :=
  Below w0.heap.size w0 wr ∧ (∀ x ∈ L, w0.heap.size ≤ x.1 ∧ blk wr x.1 = some (.cells x.2.1 x.2.2 (0, 0))) ∧ (L.map (·.1)).Nodup
theorem St.below {w0 wr : World} {L : List (Nat × Array Value × TypeId)} (h : St w0 wr L) : Below w0.heap.size w0 wr := h.1
theorem St.blk {w0 wr : World} {L : List (Nat × Array Value × TypeId)} (h : St w0 wr L) (i : Nat) {b : Nat} {cs : Array Value} {t : TypeId} (hi : L[i]? = some (b, cs, t)) : Go.Proofs.Ytkfbfgjfdjhjdaa.blk wr b = some (.cells cs t (0, 0)) :=
  (h.2.1 _ (List.mem_of_getElem? hi)).2
theorem St.at {w0 wr : World} {L : List (Nat × Array Value × TypeId)} (h : St w0 wr L) (i : Nat) {b : Nat} {cs : Array Value} {t : TypeId} (hi : L[i]? = some (b, cs, t)) :
    Go.Proofs.Ytkfbfgjfdjhjdaa.blk wr b = some (.cells cs t (0, 0)) ∧ (∀ o, wr.cell? ⟨b, o, none⟩ = cs[o]?) ∧ (∀ o, wr.frozen? ⟨b, o, none⟩ = false) ∧ b < wr.heap.size ∧ ¬ b = wr.heap.size := by
  have h1 := h.blk i hi
  have h2 := blk_lt h1
  exact ⟨h1, fun o => cell_of_row wr b o cs t _ h1, fun o => frozen_of_row wr b o cs t h1, h2, by omega⟩
theorem St.call {w0 wr w1 : World} {L : List (Nat × Array Value × TypeId)} (h : St w0 wr L) (hb : Below wr.heap.size wr w1) : St w0 w1 L :=
  ⟨chain h.1 h.1.size hb, fun x hx => ⟨(h.2.1 x hx).1, (hb.block _ (blk_lt (h.2.1 x hx).2)).trans (h.2.1 x hx).2⟩, h.2.2⟩
theorem St.cls {w0 wr w1 : World} {L : List (Nat × Array Value × TypeId)} (h : St w0 wr L) (hb : Cls wr w1) : St w0 w1 L := h.call hb
theorem St.drewN {w0 wr : World} {L : List (Nat × Array Value × TypeId)} (h : St w0 wr L) (n : Nat) : St w0 (wr.drewN n) L := h.call ⟨rfl, rfl, rfl, Nat.le_refl _, fun _ _ => rfl⟩
theorem St.alloc {w0 wr : World} {L : List (Nat × Array Value × TypeId)} (h : St w0 wr L) (cs : Array Value) (t : TypeId) : St w0 (wr.alloc (.cells cs t)) ((wr.heap.size, cs, t) :: L) := by
  have h1 : St w0 (wr.alloc (.cells cs t)) L := h.call ((Below.refl _ _).alloc (Nat.le_refl _) _)
  refine ⟨h1.1, fun x hx => ?_, ?_⟩
  · rcases List.mem_cons.1 hx with rfl | hx
    · exact ⟨h.1.size, by rw [blk_alloc, if_pos rfl]⟩
    · exact h1.2.1 x hx
  · simp only [List.map_cons, List.nodup_cons]
    refine ⟨fun hm => ?_, h.2.2⟩
    obtain ⟨x, hx, he⟩ := List.mem_map.1 hm
    have := blk_lt (h.2.1 x hx).2
    omega
theorem St.alloc' {w0 wr : World} {L : List (Nat × Array Value × TypeId)} {n : Nat} {cs : Array Value} {t : TypeId} (h : St w0 wr L) (hn : n = wr.heap.size) : St w0 (wr.alloc (.cells cs t)) ((n, cs, t) :: L) := by
  subst hn; exact h.alloc cs t
theorem St.start (w : World) : St w w [] := ⟨Below.refl _ _, fun _ h => (List.not_mem_nil h).elim, List.nodup_nil⟩
theorem St.setRow {w0 wr : World} {L : List (Nat × Array Value × TypeId)} (h : St w0 wr L) (i : Nat) {b : Nat} {cs : Array Value} {t : TypeId} (hi : L[i]? = some (b, cs, t)) (cs' : Array Value) : St w0 (wr.setRow b cs') (L.set i (b, cs', t)) := by
  have hm := h.2.1 _ (List.mem_of_getElem? hi)
  have hil : i < L.length := (List.getElem?_eq_some_iff.1 hi).1
  refine ⟨below_setRow' h.1 hm.1 _, fun x hx => ?_, ?_⟩
  · obtain ⟨j, hj, rfl⟩ := List.getElem_of_mem hx
    rw [List.getElem_set]
    split
    · exact ⟨hm.1, blk_setRow_same hm.2 _⟩
    · rename_i hij
      simp only [List.length_set] at hj
      have hx2 := h.2.1 L[j] (List.getElem_mem hj)
      refine ⟨hx2.1, ?_⟩
      rw [blk_setRow]
      · exact hx2.2
      · intro he
        have hn := h.2.2
        have e1 : (L.map (·.1))[i]'(by simpa using hil) = b := by
          have := (List.getElem?_eq_some_iff.1 hi).2
          simp [this]
        have e2 : (L.map (·.1))[j]'(by simpa using hj) = b := by simp [he]
        exact hij ((List.getElem_inj hn).1 (e1.trans e2.symm))
  · have e : (L.set i (b, cs', t)).map (·.1) = L.map (·.1) := by
      rw [List.map_set]
      have : b = (L.map (·.1))[i]'(by simpa using hil) := by
        have := (List.getElem?_eq_some_iff.1 hi).2
        simp [this]
      simp only [this, List.set_getElem_self]
    rw [e]; exact h.2.2
theorem St.setCell {w0 wr : World} {L : List (Nat × Array Value × TypeId)} (h : St w0 wr L) (i : Nat) {b : Nat} {cs : Array Value} {t : TypeId} (hi : L[i]? = some (b, cs, t)) (o : Nat) (v : Value) : St w0 (wr.setCell ⟨b, o, none⟩ v) (L.set i (b, cs.setIfInBounds o v, t)) := by
  rw [setCell_eq_setRow wr b o cs t (0, 0) v (h.blk i hi)]
  exact h.setRow i hi _
theorem St.tail {w0 wr : World} {x : Nat × Array Value × TypeId} {L : List (Nat × Array Value × TypeId)} (h : St w0 wr (x :: L)) : St w0 wr L :=
  ⟨h.1, fun y hy => h.2.1 y (List.mem_cons_of_mem _ hy), (List.nodup_cons.1 (by simpa using h.2.2)).2⟩
theorem Cls.keepF {W w1 : World} (h : Cls W w1) {b : Nat} {cs : Array Value} {t : TypeId} {fr : Nat × Nat} (hk : Go.Proofs.Ytkfbfgjfdjhjdaa.blk W b = some (.cells cs t fr)) :
    Go.Proofs.Ytkfbfgjfdjhjdaa.blk w1 b = some (.cells cs t fr) ∧ (∀ o, w1.cell? ⟨b, o, none⟩ = cs[o]?) ∧ b < w1.heap.size := by
  have h1 : Go.Proofs.Ytkfbfgjfdjhjdaa.blk w1 b = some (.cells cs t fr) := (Below.block h b (blk_lt hk)).trans hk
  exact ⟨h1, fun o => cell_of_row w1 b o cs t _ h1, blk_lt h1⟩
/-- A block that came in is as it was. -/
theorem St.far {w0 wr : World} {L : List (Nat × Array Value × TypeId)} (h : St w0 wr L) {b : Nat} {cs : Array Value} {t : TypeId} {fr : Nat × Nat} (hb : Go.Proofs.Ytkfbfgjfdjhjdaa.blk w0 b = some (.cells cs t fr)) :
    Go.Proofs.Ytkfbfgjfdjhjdaa.blk wr b = some (.cells cs t fr) ∧ (∀ o, wr.cell? ⟨b, o, none⟩ = cs[o]?) ∧ b < w0.heap.size ∧ b < wr.heap.size ∧ ¬ b = wr.heap.size := by
  have h1 : Go.Proofs.Ytkfbfgjfdjhjdaa.blk wr b = some (.cells cs t fr) := (h.1.block b (blk_lt hb)).trans hb
  have h2 := blk_lt hb
  have h3 := h.1.size
  exact ⟨h1, fun o => cell_of_row wr b o cs t _ h1, h2, by omega, by omega⟩
theorem St.apart {w0 wr : World} {L : List (Nat × Array Value × TypeId)} (h : St w0 wr L) {b : Nat} (hb : b < w0.heap.size) (i : Nat) {g : Nat} {cs : Array Value} {t : TypeId} (hi : L[i]? = some (g, cs, t)) : ¬ b = g := by
  have := (h.2.1 _ (List.mem_of_getElem? hi)).1
  simp only at this
  omega
end Go.Proofs.Ytkfbfgjfdjhjdaa
