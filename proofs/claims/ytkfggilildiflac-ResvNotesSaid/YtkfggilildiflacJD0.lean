/-
  Laws that the claims of this seat use, of several texts in one: ResvP, ResvL, IterB, RangeP, ResvA, ResvB, Perm, ResvF, ResvG. No condition of their own.
-/
import Derived.Lib.AppendZerosOnto
import Derived.Lib.Overlaps
import Derived.Laws.Externs
import Derived.Test.YtkfggilildiflacJC1

namespace Go.Proofs.Ytkfggilildiflac
open Go.ChangeShapes Go.WideShapes Go.ChangeAt Go.RowKit
/-- A registration: who, and its key. -/
abbrev Rg := Int × Int
/-- Reservations. -/
structure Rv where
  regs : List Rg
  holder : Int
  typ : Int
  stays : Bool
  gen : Int
/-- An operation. -/
structure Ro where
  op : Int
  who : Int
  key : Int
  new : Int
  typ : Int
  stays : Bool
def nobody : Rv := ⟨[], -1, 0, false, 0⟩
def keyOf : List Rg → Int → Int
  | [], _ => 0
  | g :: l, who => if g.1 = who then g.2 else keyOf l who
/-- Registrations in form: each one's number and key in range, by rising numbers. -/
def okL : List Rg → Prop
  | [] => True
  | [g] => 0 ≤ g.1 ∧ 1 ≤ g.2
  | g :: h :: l => (0 ≤ g.1 ∧ 1 ≤ g.2) ∧ g.1 < h.1 ∧ okL (h :: l)
def okDec : (l : List Rg) → Decidable (okL l)
  | [] => isTrue trivial
  | [g] => inferInstanceAs (Decidable (0 ≤ g.1 ∧ 1 ≤ g.2))
  | g :: h :: l => @instDecidableAnd _ _ (inferInstanceAs (Decidable (0 ≤ g.1 ∧ 1 ≤ g.2))) (@instDecidableAnd _ _ (inferInstanceAs (Decidable (g.1 < h.1))) (okDec (h :: l)))
instance (l : List Rg) : Decidable (okL l) := okDec l
theorem okL_nil : okL [] := trivial
theorem okL_head {g : Rg} {l : List Rg} (h : okL (g :: l)) : 0 ≤ g.1 ∧ 1 ≤ g.2 := by
  cases l with
  | nil => exact h
  | cons b l => exact h.1
theorem okL_tail {g : Rg} {l : List Rg} (h : okL (g :: l)) : okL l := by
  cases l with
  | nil => trivial
  | cons b l => exact h.2.2
theorem okL_lt {g : Rg} : ∀ {l : List Rg}, okL (g :: l) → ∀ x ∈ l, g.1 < x.1
  | [], _, x, hx => by cases hx
  | b :: l, h, x, hx => by
    rcases List.mem_cons.1 hx with rfl | hx
    · exact h.2.1
    · exact Int.lt_trans h.2.1 (okL_lt h.2.2 x hx)
theorem okL_mem : ∀ {l : List Rg}, okL l → ∀ x ∈ l, 0 ≤ x.1 ∧ 1 ≤ x.2
  | [], _, x, hx => by cases hx
  | b :: l, h, x, hx => by
    rcases List.mem_cons.1 hx with rfl | hx
    · exact okL_head h
    · exact okL_mem (okL_tail h) x hx
theorem okL_cons {g : Rg} {l : List Rg} (hg : 0 ≤ g.1 ∧ 1 ≤ g.2) (hl : okL l) (hlt : ∀ x ∈ l, g.1 < x.1) : okL (g :: l) := by
  cases l with
  | nil => exact hg
  | cons b l => exact ⟨hg, hlt b (List.mem_cons_self ..), hl⟩
theorem okL_filter (p : Rg → Bool) : ∀ {l : List Rg}, okL l → okL (l.filter p)
  | [], _ => trivial
  | g :: l, h => by
    have ht := okL_filter p (okL_tail h)
    rw [List.filter_cons]
    split
    · exact okL_cons (okL_head h) ht fun x hx => okL_lt h x (List.mem_filter.1 hx).1
    · exact ht
/-- Someone is registered. -/
def hasR (l : List Rg) (who : Int) : Bool := l.any fun g => g.1 == who
/-- How many stand ahead of someone. -/
def idxR (l : List Rg) (who : Int) : Nat := (l.takeWhile fun g => g.1 < who).length
theorem idxR_le (l : List Rg) (who : Int) : idxR l who ≤ l.length := (List.takeWhile_sublist _).length_le
theorem keyOf_has : ∀ {l : List Rg} (who : Int), okL l → (hasR l who = true ↔ keyOf l who ≠ 0)
  | [], who, _ => by simp [hasR, keyOf]
  | g :: l, who, h => by
    have ih := keyOf_has who (okL_tail h)
    have hk := (okL_head h).2
    have e1 : hasR (g :: l) who = (g.1 == who || hasR l who) := rfl
    have e2 : keyOf (g :: l) who = if g.1 = who then g.2 else keyOf l who := rfl
    rw [e1, e2]
    by_cases e : g.1 = who
    · rw [if_pos e, show (g.1 == who) = true from by simp [e]]
      simp only [Bool.true_or, true_iff]
      omega
    · rw [if_neg e, show (g.1 == who) = false from by simp [e], Bool.false_or]
      exact ih
theorem keyOf_pos {l : List Rg} (who : Int) (h : okL l) : 0 ≤ keyOf l who := by
  induction l with
  | nil => simp [keyOf]
  | cons g l ih =>
    unfold keyOf
    split
    · have := (okL_head h).2; omega
    · exact ih (okL_tail h)
theorem hasR_none {l : List Rg} {who : Int} (h : ∀ x ∈ l, who < x.1) : hasR l who = false := by
  unfold hasR
  rw [Bool.eq_false_iff]
  intro ha
  obtain ⟨x, hx, he⟩ := List.any_eq_true.1 ha
  have := h x hx
  simp at he; omega
theorem keyOf_none : ∀ {l : List Rg} {who : Int}, hasR l who = false → keyOf l who = 0
  | [], _, _ => rfl
  | g :: l, who, h => by
    unfold hasR at h
    simp only [List.any_cons, Bool.or_eq_false_iff, beq_eq_false_iff_ne, ne_eq] at h
    unfold keyOf
    rw [if_neg h.1]
    exact keyOf_none (by unfold hasR; exact h.2)
/-- What is found where someone stands. -/
theorem at_idx : ∀ {l : List Rg} {who : Int}, okL l → hasR l who = true → l[idxR l who]? = some (who, keyOf l who)
  | [], _, _, h => by simp [hasR] at h
  | g :: l, who, hl, h => by
    unfold idxR keyOf
    by_cases e : g.1 = who
    · subst e
      simp
    · rw [if_neg e]
      have h2 : hasR l who = true := by
        unfold hasR at h ⊢
        simpa [e] using h
      have hlt : g.1 < who := by
        unfold hasR at h2
        obtain ⟨x, hx, he⟩ := List.any_eq_true.1 h2
        have := okL_lt hl x hx
        simp at he; omega
      rw [List.takeWhile_cons, if_pos (by simpa using hlt)]
      exact at_idx (okL_tail hl) h2
theorem idx_lt {l : List Rg} {who : Int} (h : okL l) (hh : hasR l who = true) : idxR l who < l.length := (List.getElem?_eq_some_iff.1 (at_idx h hh)).1
/-- Registrations with one more, or another key. -/
def insR (l : List Rg) (who key : Int) : List Rg := l.filter (fun g => g.1 < who) ++ (who, key) :: l.filter (fun g => who < g.1)
theorem takeWhile_sorted {who : Int} : ∀ {l : List Rg}, okL l → l.takeWhile (fun g => g.1 < who) = l.filter fun g => g.1 < who
  | [], _ => rfl
  | g :: l, h => by
    rw [List.takeWhile_cons, List.filter_cons]
    by_cases e : g.1 < who
    · simp only [e, decide_true, if_true]
      rw [takeWhile_sorted (okL_tail h)]
    · simp only [e, decide_false]
      rw [if_neg (by simp), if_neg (by simp)]
      symm
      apply List.filter_eq_nil_iff.2
      intro x hx
      have := okL_lt h x hx
      simp; omega
theorem drop_idx {who : Int} : ∀ {l : List Rg}, okL l → l.drop (idxR l who) = l.filter fun g => who ≤ g.1
  | [], _ => by simp [idxR]
  | g :: l, h => by
    unfold idxR
    rw [List.takeWhile_cons]
    by_cases e : g.1 < who
    · have ih := drop_idx (who := who) (okL_tail h)
      unfold idxR at ih
      simp only [e, decide_true, if_true, List.length_cons, List.drop_succ_cons]
      rw [ih, List.filter_cons, if_neg (by simp; omega)]
    · simp only [e, decide_false]
      rw [if_neg (by simp), List.length_nil, List.drop_zero]
      symm
      apply List.filter_eq_self.2
      intro x hx
      rcases List.mem_cons.1 hx with rfl | hx
      · simp; omega
      · have := okL_lt h x hx
        simp; omega
theorem take_idx {who : Int} {l : List Rg} (h : okL l) : l.take (idxR l who) = l.filter fun g => g.1 < who := by
  rw [← takeWhile_sorted h]
  unfold idxR
  exact (List.prefix_iff_eq_take.1 (List.takeWhile_prefix _)).symm
theorem ins_new {who key : Int} {l : List Rg} (h : okL l) (hn : hasR l who = false) : l.take (idxR l who) ++ (who, key) :: l.drop (idxR l who) = insR l who key := by
  rw [take_idx h, drop_idx h]
  unfold insR
  congr 2
  apply List.filter_congr
  intro x hx
  have : x.1 ≠ who := fun e => by
    unfold hasR at hn
    rw [Bool.eq_false_iff] at hn
    exact hn (List.any_eq_true.2 ⟨x, hx, by simp [e]⟩)
  simp; omega
theorem ins_old {who key : Int} {l : List Rg} (h : okL l) (hn : hasR l who = true) : l.set (idxR l who) (who, key) = insR l who key := by
  have h1 := drop_idx (who := who) h
  have h2 := take_idx (who := who) h
  have hi := idx_lt h hn
  rw [List.set_eq_take_append_cons_drop, if_pos hi, h2]
  unfold insR
  congr 2
  have h3 : l.drop (idxR l who + 1) = (l.drop (idxR l who)).tail := by simp
  rw [h3, h1]
  have h4 : l.drop (idxR l who) = (who, keyOf l who) :: l.drop (idxR l who + 1) := by
    rw [List.drop_eq_getElem_cons hi]
    congr 1
    have := at_idx h hn
    rw [List.getElem?_eq_getElem hi] at this
    exact Option.some.inj this
  have h5 : okL (l.drop (idxR l who)) := by rw [h1]; exact okL_filter _ h
  rw [h4] at h5 h1
  rw [← h1, List.tail_cons]
  have h6 : ∀ x ∈ l.drop (idxR l who + 1), who < x.1 := fun x hx => okL_lt h5 x hx
  have h7 : (l.filter fun g => who ≤ g.1).filter (fun g => who < g.1) = l.filter fun g => who < g.1 := by
    rw [List.filter_filter]
    apply List.filter_congr
    intro x _
    simp; omega
  rw [← h7, ← h1, List.filter_cons, if_neg (by simp)]
  symm
  apply List.filter_eq_self.2
  intro x hx
  simpa using h6 x hx
theorem okL_append {a b : List Rg} : okL a → okL b → (∀ x ∈ a, ∀ y ∈ b, x.1 < y.1) → okL (a ++ b) := by
  induction a with
  | nil => intro _ hb _; exact hb
  | cons g a ih =>
    intro ha hb hx
    refine okL_cons (okL_head ha) (ih (okL_tail ha) hb fun x hm y hy => hx x (List.mem_cons_of_mem _ hm) y hy) fun x hm => ?_
    rcases List.mem_append.1 hm with hm | hm
    · exact okL_lt ha x hm
    · exact hx g (List.mem_cons_self ..) x hm
theorem okL_ins {l : List Rg} {who key : Int} (h : okL l) (hw : 0 ≤ who) (hk : 1 ≤ key) : okL (insR l who key) := by
  refine okL_append (okL_filter _ h) (okL_cons ⟨hw, hk⟩ (okL_filter _ h) fun x hx => by simpa using (List.mem_filter.1 hx).2) fun x hx y hy => ?_
  have h1 : x.1 < who := by simpa using (List.mem_filter.1 hx).2
  rcases List.mem_cons.1 hy with rfl | hy
  · exact h1
  · have h2 : who < y.1 := by simpa using (List.mem_filter.1 hy).2
    omega
theorem len_ins_old {l : List Rg} {who key : Int} (h : okL l) (hn : hasR l who = true) : (insR l who key).length = l.length := by
  rw [← ins_old h hn, List.length_set]
theorem len_ins_new {l : List Rg} {who key : Int} (h : okL l) (hn : hasR l who = false) : (insR l who key).length = l.length + 1 := by
  rw [← ins_new h hn, List.length_append, List.length_cons, List.length_take, List.length_drop]
  have := idxR_le l who
  omega
theorem hasR_ins {l : List Rg} {who key x : Int} : hasR (insR l who key) x = (hasR l x || x == who) := by
  unfold hasR insR
  rw [List.any_append, List.any_cons, List.any_filter, List.any_filter]
  rw [Bool.eq_iff_iff]
  simp only [Bool.or_eq_true, List.any_eq_true, Bool.and_eq_true, decide_eq_true_eq, beq_iff_eq]
  constructor
  · rintro (⟨y, hy, h1, rfl⟩ | rfl | ⟨y, hy, h1, rfl⟩)
    · exact .inl ⟨y, hy, rfl⟩
    · exact .inr rfl
    · exact .inl ⟨y, hy, rfl⟩
  · rintro (⟨y, hy, rfl⟩ | rfl)
    · by_cases h1 : y.1 < who
      · exact .inl ⟨y, hy, h1, rfl⟩
      · by_cases h2 : who < y.1
        · exact .inr (.inr ⟨y, hy, h2, rfl⟩)
        · exact .inr (.inl (by omega))
    · exact .inr (.inl rfl)
/-! ### The document's words -/
def goodR (r : Rv) : Prop := (r.regs.length ≤ 4 ∧ 0 ≤ r.gen) ∧ okL r.regs ∧ if r.holder = -1 then r.typ = 0 else keyOf r.regs r.holder > 0 ∧ 1 ≤ r.typ ∧ r.typ ≤ 6
instance (r : Rv) : Decidable (goodR r) := by unfold goodR; infer_instance
def holdsR (r : Rv) (who : Int) : Prop := (r.holder ≠ -1 ∧ keyOf r.regs who ≠ 0) ∧ (r.holder = who ∨ 5 ≤ r.typ)
instance (r : Rv) (who : Int) : Decidable (holdsR r who) := by unfold holdsR; infer_instance
/-- Reservations without some registrations, whose holder may have to be another one. -/
def endR (r : Rv) (p : Rg → Bool) : Rv :=
  let left := r.regs.filter fun g => !p g
  if r.holder ≠ -1 ∧ keyOf left r.holder = 0 then
    (match left with
      | g :: _ => if 5 ≤ r.typ then { r with regs := left, holder := g.1 } else { r with regs := left, holder := -1, typ := 0 }
      | [] => { r with regs := left, holder := -1, typ := 0 })
  else { r with regs := left }
def soundR (o : Ro) : Prop := (1 ≤ o.op ∧ o.op ≤ 6) ∧ 0 ≤ o.who ∧ 0 ≤ o.key ∧ 0 ≤ o.new ∧ ((o.op = 2 ∨ o.op = 3 ∨ o.op = 5) → 1 ≤ o.typ ∧ o.typ ≤ 6)
instance (o : Ro) : Decidable (soundR o) := by unfold soundR; infer_instance
def knowsR (r : Rv) (o : Ro) : Prop := if o.op = 6 then True else if o.op = 1 then keyOf r.regs o.who = o.key else keyOf r.regs o.who ≠ 0 ∧ keyOf r.regs o.who = o.key
instance (r : Rv) (o : Ro) : Decidable (knowsR r o) := by unfold knowsR; infer_instance
def overR (r : Rv) (o : Ro) : Prop := r.holder ≠ -1 ∧ keyOf r.regs r.holder = o.new
instance (r : Rv) (o : Ro) : Decidable (overR r o) := by unfold overR; infer_instance
def otherR (o : Ro) (g : Rg) : Bool := g.1 != o.who && g.2 == o.new
/-- What an operation that is known does: the reservations, and an error's number. -/
def actR (r : Rv) (o : Ro) : Rv × Int :=
  if o.op = 1 ∨ o.op = 6 then
    (if o.new = 0 then ({ endR r (fun g => g.1 == o.who) with stays := o.stays, gen := wrap64 (r.gen + 1) }, 0)
     else if hasR r.regs o.who = false ∧ 4 ≤ r.regs.length then (nobody, 7)
     else ({ r with regs := insR r.regs o.who o.new, stays := o.stays, gen := wrap64 (r.gen + 1) }, 0))
  else if o.op = 2 then
    (if r.holder = -1 then ({ r with holder := o.who, typ := o.typ }, 0)
     else if holdsR r o.who ∧ r.typ = o.typ then (r, 0) else (nobody, 9))
  else if o.op = 3 then
    (if ¬ holdsR r o.who then (r, 0) else if r.typ ≠ o.typ then (nobody, 2) else ({ r with holder := -1, typ := 0 }, 0))
  else if o.op = 4 then ({ r with regs := [], holder := -1, typ := 0, gen := wrap64 (r.gen + 1) }, 0)
  else if overR r o ∨ r.regs.any (otherR o) = true then
    (let s := if overR r o then { r with holder := o.who, typ := o.typ } else r
     ({ endR s (otherR o) with gen := wrap64 (r.gen + 1) }, 0))
  else (nobody, 9)
def doR (r : Rv) (o : Ro) : Rv × Int :=
  if ¬ (goodR r ∧ soundR o) then (nobody, 2) else if ¬ knowsR r o then (nobody, 9) else actR r o
end Go.Proofs.Ytkfggilildiflac

namespace Go.Proofs.Ytkfggilildiflac
open Go.ChangeShapes Go.WideShapes Go.ChangeAt Go.RowKit
theorem keyOf_head {g : Rg} {l : List Rg} : keyOf (g :: l) g.1 = g.2 := by unfold keyOf; rw [if_pos rfl]
theorem endR_regs (r : Rv) (p : Rg → Bool) : (endR r p).regs = r.regs.filter fun g => !p g := by
  unfold endR
  dsimp only
  split
  · split
    · next h =>
      split
      · rfl
      · rfl
    · next h => rfl
  · rfl
theorem endR_gen (r : Rv) (p : Rg → Bool) : (endR r p).gen = r.gen ∧ (endR r p).stays = r.stays := by
  unfold endR
  dsimp only
  split
  · split
    · split
      · exact ⟨rfl, rfl⟩
      · exact ⟨rfl, rfl⟩
    · exact ⟨rfl, rfl⟩
  · exact ⟨rfl, rfl⟩
theorem endR_held {r : Rv} {p : Rg → Bool} (h : okL r.regs) (ht : if r.holder = -1 then r.typ = 0 else 1 ≤ r.typ ∧ r.typ ≤ 6) : if (endR r p).holder = -1 then (endR r p).typ = 0 else keyOf (endR r p).regs (endR r p).holder > 0 ∧ 1 ≤ (endR r p).typ ∧ (endR r p).typ ≤ 6 := by
  have hf := okL_filter (fun g => !p g) h
  unfold endR
  dsimp only
  split
  · next hc =>
    rw [if_neg hc.1] at ht
    split
    · next g l hl =>
      rw [hl] at hf
      split
      · dsimp only
        have hg := okL_head hf
        rw [if_neg (by omega), hl, keyOf_head]
        exact ⟨by omega, ht⟩
      · dsimp only
        rw [if_pos rfl]
    · dsimp only
      rw [if_pos rfl]
  · next hc =>
    dsimp only
    by_cases h1 : r.holder = -1
    · rw [if_pos h1] at ht ⊢; exact ht
    · rw [if_neg h1] at ht ⊢
      have := keyOf_pos r.holder hf
      refine ⟨?_, ht⟩
      by_cases h0 : keyOf (r.regs.filter fun g => !p g) r.holder = 0
      · exact absurd ⟨h1, h0⟩ hc
      · omega
theorem good_typ {r : Rv} (h : goodR r) : if r.holder = -1 then r.typ = 0 else 1 ≤ r.typ ∧ r.typ ≤ 6 := by
  have := h.2.2
  split
  · next h1 => rw [if_pos h1] at this; exact this
  · next h1 => rw [if_neg h1] at this; exact this.2
theorem wrap_gen {g : Int} (h0 : 0 ≤ g) (h : g < 1000000) : wrap64 (g + 1) = g + 1 := by unfold wrap64; omega
/-- An operation that is done leaves reservations in form, one registration more counted at most. -/
theorem act_good {r x : Rv} {o : Ro} (hr : goodR r) (ho : soundR o) (hk : knowsR r o) (hg : r.gen < 1000000) (h : actR r o = (x, 0)) : goodR x ∧ r.gen ≤ x.gen ∧ x.gen ≤ r.gen + 1 := by
  obtain ⟨⟨h4, h0⟩, hl, hh⟩ := hr
  have ht := good_typ ⟨⟨h4, h0⟩, hl, hh⟩
  have hw := wrap_gen h0 hg
  have hlen : ∀ (p : Rg → Bool), (r.regs.filter p).length ≤ 4 := fun p => Nat.le_trans (List.length_filter_le _ _) h4
  unfold actR at h
  split at h
  · split at h
    · simp only [Prod.mk.injEq, and_true] at h
      subst h
      have he := endR_held (p := fun g => g.1 == o.who) hl ht
      refine ⟨⟨⟨?_, ?_⟩, ?_, ?_⟩, ?_⟩
      · show (endR r _).regs.length ≤ 4
        rw [endR_regs]; exact hlen _
      · show 0 ≤ wrap64 (r.gen + 1)
        omega
      · show okL (endR r _).regs
        rw [endR_regs]; exact okL_filter _ hl
      · exact he
      · show r.gen ≤ wrap64 (r.gen + 1) ∧ _ ≤ _
        rw [hw]; dsimp only; omega
    · split at h
      · simp only [Prod.mk.injEq] at h
        exact absurd h.2 (by decide)
      · next h1 h2 =>
        simp only [Prod.mk.injEq, and_true] at h
        subst h
        have hn : 1 ≤ o.new := by have := ho.2.2.2.1; omega
        refine ⟨⟨⟨?_, ?_⟩, ?_, ?_⟩, ?_⟩
        · show (insR r.regs o.who o.new).length ≤ 4
          cases hb : hasR r.regs o.who with
          | true => rw [len_ins_old hl hb]; exact h4
          | false =>
            rw [len_ins_new hl hb]
            rw [hb] at h2
            simp only [true_and] at h2
            omega
        · show 0 ≤ wrap64 (r.gen + 1)
          omega
        · exact okL_ins hl ho.2.1 hn
        · show if r.holder = -1 then r.typ = 0 else keyOf (insR r.regs o.who o.new) r.holder > 0 ∧ 1 ≤ r.typ ∧ r.typ ≤ 6
          split
          · next h3 => rw [if_pos h3] at hh; exact hh
          · next h3 =>
            rw [if_neg h3] at hh
            refine ⟨?_, hh.2⟩
            have hi := okL_ins (key := o.new) hl ho.2.1 hn
            have h5 : hasR r.regs r.holder = true := (keyOf_has _ hl).2 (by omega)
            have h6 : hasR (insR r.regs o.who o.new) r.holder = true := by rw [hasR_ins, h5]; rfl
            have h7 := (keyOf_has _ hi).1 h6
            have h8 := keyOf_pos r.holder hi
            omega
        · show r.gen ≤ wrap64 (r.gen + 1) ∧ _ ≤ _
          rw [hw]; dsimp only; omega
  · next n1 =>
    split at h
    · next h2 =>
      have hty := ho.2.2.2.2 (.inl h2)
      split at h
      · simp only [Prod.mk.injEq, and_true] at h
        subst h
        refine ⟨⟨⟨h4, h0⟩, hl, ?_⟩, Int.le_refl _, by show r.gen ≤ r.gen + 1; omega⟩
        have hw0 := ho.2.1
        unfold knowsR at hk
        rw [if_neg (by omega), if_neg (by omega)] at hk
        have := keyOf_pos o.who hl
        show if o.who = -1 then o.typ = 0 else keyOf r.regs o.who > 0 ∧ 1 ≤ o.typ ∧ o.typ ≤ 6
        rw [if_neg (by omega)]
        exact ⟨by omega, hty⟩
      · split at h
        · simp only [Prod.mk.injEq, and_true] at h
          subst h
          exact ⟨⟨⟨h4, h0⟩, hl, hh⟩, Int.le_refl _, by omega⟩
        · simp only [Prod.mk.injEq] at h
          exact absurd h.2 (by decide)
    · split at h
      · split at h
        · simp only [Prod.mk.injEq, and_true] at h
          subst h
          exact ⟨⟨⟨h4, h0⟩, hl, hh⟩, Int.le_refl _, by omega⟩
        · split at h
          · simp only [Prod.mk.injEq] at h
            exact absurd h.2 (by decide)
          · simp only [Prod.mk.injEq, and_true] at h
            subst h
            refine ⟨⟨⟨h4, h0⟩, hl, ?_⟩, Int.le_refl _, by show r.gen ≤ r.gen + 1; omega⟩
            show if (-1 : Int) = -1 then (0 : Int) = 0 else _
            rw [if_pos rfl]
      · split at h
        · simp only [Prod.mk.injEq, and_true] at h
          subst h
          refine ⟨⟨⟨Nat.zero_le _, ?_⟩, trivial, ?_⟩, ?_⟩
          · show 0 ≤ wrap64 (r.gen + 1)
            omega
          · show if (-1 : Int) = -1 then (0 : Int) = 0 else _
            rw [if_pos rfl]
          · show r.gen ≤ wrap64 (r.gen + 1) ∧ _ ≤ _
            rw [hw]; dsimp only; omega
        · next n2 n3 n4 =>
          have h5 : o.op = 5 := by have := ho.1; omega
          have hty := ho.2.2.2.2 (.inr (.inr h5))
          have hw0 := ho.2.1
          split at h
          · dsimp only at h
            simp only [Prod.mk.injEq, and_true] at h
            subst h
            have ht2 : if (if overR r o then { r with holder := o.who, typ := o.typ } else r).holder = -1 then (if overR r o then { r with holder := o.who, typ := o.typ } else r).typ = 0 else 1 ≤ (if overR r o then { r with holder := o.who, typ := o.typ } else r).typ ∧ (if overR r o then { r with holder := o.who, typ := o.typ } else r).typ ≤ 6 := by
              split
              · dsimp only
                rw [if_neg (by omega)]; exact hty
              · exact ht
            have hrg : (if overR r o then { r with holder := o.who, typ := o.typ } else r).regs = r.regs := by split <;> rfl
            have he := endR_held (r := if overR r o then { r with holder := o.who, typ := o.typ } else r) (p := otherR o) (by rw [hrg]; exact hl) ht2
            refine ⟨⟨⟨?_, ?_⟩, ?_, ?_⟩, ?_⟩
            · show (endR _ _).regs.length ≤ 4
              rw [endR_regs, hrg]; exact hlen _
            · show 0 ≤ wrap64 (r.gen + 1)
              omega
            · show okL (endR _ _).regs
              rw [endR_regs, hrg]; exact okL_filter _ hl
            · exact he
            · show r.gen ≤ wrap64 (r.gen + 1) ∧ _ ≤ _
              rw [hw]; dsimp only; omega
          · simp only [Prod.mk.injEq] at h
            exact absurd h.2 (by decide)
theorem act_none {r x : Rv} {o : Ro} {e : Int} (h : actR r o = (x, e)) (he : e ≠ 0) : x = nobody := by
  unfold actR at h
  repeat' split at h
  all_goals
    simp only [Prod.mk.injEq] at h
    first | exact absurd h.2.symm he | exact h.1.symm
theorem do_none {r x : Rv} {o : Ro} {e : Int} (h : doR r o = (x, e)) (he : e ≠ 0) : x = nobody := by
  unfold doR at h
  split at h
  · simp only [Prod.mk.injEq] at h; exact h.1.symm
  · split at h
    · simp only [Prod.mk.injEq] at h; exact h.1.symm
    · exact act_none h he
theorem do_good {r x : Rv} {o : Ro} (hg : r.gen < 1000000) (h : doR r o = (x, 0)) : goodR x ∧ r.gen ≤ x.gen ∧ x.gen ≤ r.gen + 1 := by
  unfold doR at h
  split at h
  · simp only [Prod.mk.injEq] at h; exact absurd h.2 (by decide)
  · next h1 =>
    have h1 := Decidable.not_not.1 h1
    split at h
    · simp only [Prod.mk.injEq] at h; exact absurd h.2 (by decide)
    · next h2 => exact act_good h1.1 h1.2 (Decidable.not_not.1 h2) hg h
theorem good_nobody : goodR nobody := by decide
/-- Operations, one behind the other. -/
def runR : Rv → List Ro → Rv
  | r, [] => r
  | r, o :: l => runR (if (doR r o).2 = 0 then (doR r o).1 else r) l
theorem run_good : ∀ {l : List Ro} {r : Rv} {k : Nat}, goodR r → r.gen ≤ k → k + l.length ≤ 1000 → goodR (runR r l) ∧ (runR r l).gen ≤ 1000
  | [], r, k, h, hg, hk => ⟨h, by unfold runR; simp at hk; omega⟩
  | o :: l, r, k, h, hg, hk => by
    simp only [List.length_cons] at hk
    unfold runR
    split
    · next h0 =>
      obtain ⟨h1, h2, h3⟩ := do_good (r := r) (o := o) (x := (doR r o).1) (by omega) (by rw [← h0])
      exact run_good (k := k + 1) h1 (by omega) (by omega)
    · exact run_good (k := k) h hg (by omega)
end Go.Proofs.Ytkfggilildiflac

namespace Go.Proofs.Ytkfggilildiflac
open Go.RowKit
/-- **The loop 'for .. := range g { .. }' over an iterator that has its contract; the round's variables may lie in blocks of their own.** -/
theorem wp_range2 {P : Program} {g : Operand} {ps : Array Tmp} {assign body : Code} {Q : Exit → Act → World → Prop} {a : Act} {w : World}
    {gf : Nat} {lb : Array Value} (hg : a.eval g = .func (.func gf) #[] lb) (eg : ∀ args w, (callFunc gf args).run P w = .ok (.enter gf args) w)
    {els : Nat → Array Value} {N : Option Nat} {R : List Nat} {W0 : World} (hit : IterAt P gf lb els N R W0) (hb0 : Below W0.heap.size W0 w) (hps : ∀ k, (els k).size = ps.size)
    (I : Nat → List (Nat × Array Value × TypeId) → Prop) (Ix : Code → List (Nat × Array Value × TypeId) → Prop) (M : Nat) (hM : N = none → ∀ k L, I k L → k < M)
    (L0 : List (Nat × Array Value × TypeId)) (h0 : I 0 L0) (hH : Holds w (objs L0)) (hR : ∀ b ∈ R, b < w.heap.size ∧ b ∉ L0.map (·.1)) (A : Nat → List (Nat × Array Value × TypeId) → List (Nat × Array Value × TypeId) → Act → Prop)
    (hassign : ∀ (l k : Nat) (L : List (Nat × Array Value × TypeId)) (W : World), I k L → In L0 w L W → ∀ K : Act → World → Prop, (∀ a1 L' W', In L W L' W' → A k L L' a1 → K a1 W') →
      assign.wpIn (Fence.wide.inRound l) 0 P (Exit.then K (fun _ _ _ => False)) { tmps := (ps.zip (els k)).foldl (fun t (p, v) => t.setIfInBounds p v) a.tmps, defers := [] } W)
    (hbody : ∀ (l k : Nat) (L L' : List (Nat × Array Value × TypeId)) (a1 : Act) (W : World), I k L → A k L L' a1 → In L0 w L' W → (∀ n, N = some n → k < n) → body.wpIn (Fence.wide.inRound l) 0 P (roundEnd (I (k + 1)) Ix L' W) a1 W)
    (hdone : ∀ (D n : Nat) (L : List (Nat × Array Value × TypeId)) (W : World), N = some n → I n L → In L0 w L W → W.heap[D]? = some (.deferred (some [])) → w.heap.size ≤ D → Q .normal { a with defers := { target := .collected D, args := #[] } :: a.defers } W)
    (hstop : ∀ (D : Nat) (c : Code) (L : List (Nat × Array Value × TypeId)) (W : World), Ix c L → In L0 w L W → W.heap[D]? = some (.deferred (some [])) → w.heap.size ≤ D → c.wp P Q { a with defers := { target := .collected D, args := #[] } :: a.defers } W) :
    (Code.rangeFunc g ps assign body).wp P Q a w := by
  refine (wpIn_wide (n := 0)).1 (wpIn_rangeFunc ?_)
  intro fn hfn
  obtain ⟨rec, hrec⟩ : ∃ rec : LoopState → Option Code → Loop, rec = fun st pe => { state := st, pending := pe, fn, tmps := a.tmps, params := ps, assign, body, defers := w.heap.size } := ⟨_, rfl⟩
  obtain ⟨W1, hW1⟩ : ∃ W1, (w.alloc (.deferred (some []))).alloc (.loop (rec .ready none)) = W1 := ⟨_, rfl⟩
  have hL1 : W1.heap[w.heap.size + 1]? = some (.loop (rec .ready none)) := by
    rw [← hW1]; have := World.alloc_heap_new (w.alloc (.deferred (some []))) (.loop (rec .ready none)); rwa [World.size_alloc] at this
  have hK1 : W1.heap[w.heap.size]? = some (.deferred (some [])) := by
    rw [← hW1]; exact (Below.heap_alloc _ _ _ (by simp)).trans (World.alloc_heap_new w _)
  have hbW : Below w.heap.size w W1 := by rw [← hW1]; exact ((Below.refl _ w).alloc (Nat.le_refl _) _).alloc (by simp) _
  have hb1 : Below W0.heap.size W0 W1 := hb0.trans (hbW.mono hb0.size)
  have hHk : Holds W1 (objs L0) := hH.kept (B := []) (Kept.of_below hbW) (fun _ _ => List.not_mem_nil)
  have hn1 : ∀ m, w.heap.size ≤ m → m ∉ L0.map (·.1) := fun m hm0 hm => by
    rw [← objs_keys] at hm
    obtain ⟨x, hx, he⟩ := List.mem_map.1 hm
    have := hH.lt hx; omega
  have hF0 : Holds W1 ([(w.heap.size + 1, .loop (rec .ready none)), (w.heap.size, .deferred (some []))] ++ objs L0) := by
    refine ⟨fun x hx => ?_, ?_⟩
    · simp only [List.cons_append, List.nil_append, List.mem_cons] at hx
      rcases hx with rfl | rfl | hx
      · exact hL1
      · exact hK1
      · exact hHk.1 x hx
    · have := hH.2
      rw [objs_keys] at this
      simp only [List.cons_append, List.nil_append, List.map_cons, objs_keys, List.nodup_cons, List.mem_cons, not_or]
      exact ⟨⟨by omega, hn1 _ (by omega)⟩, hn1 _ (Nat.le_refl _), this⟩
  have hE0 : ∀ x ∈ [(w.heap.size + 1, Obj.loop (rec .ready none)), (w.heap.size, .deferred (some []))], w.heap.size ≤ x.1 := by
    intro x hx
    simp only [List.mem_cons, List.not_mem_nil, or_false] at hx
    rcases hx with rfl | rfl
    · exact Nat.le_succ _
    · exact Nat.le_refl _
  refine ⟨w.heap.size + 1, [{ target := .collected w.heap.size, args := #[] }], W1, { target := .fn (.func gf) lb, args := #[.func (.yield (w.heap.size + 1)) #[] #[]] }, W1, gf,
    #[.func (.yield (w.heap.size + 1)) #[] #[]] ++ lb, W1, ?_, ?_, fun _ _ => trivial, ?_, (fun h => by cases h), ?_⟩
  · rw [← hW1, hrec]; exact run_enterLoop_outer _ _ _ _ _
  · simp only [resolve, hg]
    simp [go_sem]
  · simp [invoke, go_sem, eg]
  · refine callsIn_wide.2 ?_
    refine (hit (w.heap.size + 1)
      (fun k L' => ∃ L, L' = [(w.heap.size + 1, .loop (rec .ready none)), (w.heap.size, .deferred (some []))] ++ objs L ∧ I k L)
      (fun L' => ∃ L c, L' = [(w.heap.size + 1, .loop (rec .done (some c))), (w.heap.size, .deferred (some []))] ++ objs L ∧ Ix c L)
      M W1 ([(w.heap.size + 1, .loop (rec .ready none)), (w.heap.size, .deferred (some []))] ++ objs L0) hb1 ?_ ?_ ⟨L0, rfl, h0⟩ hF0 ?_).mono ?_
    · intro b hb
      obtain ⟨h1, h2⟩ := hR b hb
      simp only [List.cons_append, List.nil_append, List.map_cons, objs_keys, List.mem_cons, not_or]
      exact ⟨by omega, by omega, h2⟩
    · rintro hN k L' ⟨L, _, hI⟩; exact hM hN k L hI
    · -- ONE ROUND
      rintro k L' W ⟨L, rfl, hI⟩ hRd hkn
      have hl : W.heap[w.heap.size + 1]? = some (.loop (rec .ready none)) := hRd.holds.1 _ (List.mem_cons_self ..)
      have hy := run_yield (P := P) (args := els k) hl (by rw [hrec]; exact hps k)
      rw [hrec] at hy
      have hIn0 : In L0 w L W := in_of_full (E0 := [(w.heap.size + 1, .loop (rec .ready none)), (w.heap.size, .deferred (some []))]) (E := [(w.heap.size + 1, .loop (rec .ready none)), (w.heap.size, .deferred (some []))]) hbW rfl hE0 hRd
      refine ⟨fn, _, assign, body, hy, roundIn_of_wpIn hfn (hassign _ k L W hI hIn0 _ fun a1 L' W' hA hAA => ?_)⟩
      have hfA := Rd.frame (E := [(w.heap.size + 1, .loop (rec .ready none)), (w.heap.size, .deferred (some []))]) hA.rd hRd.holds
      have hl' : W'.heap[w.heap.size + 1]? = some (.loop (rec .ready none)) := hfA.holds.1 _ (List.mem_cons_self ..)
      refine ⟨_, run_beginRound hl' (by rw [hrec]), ?_⟩
      have hRd2 := Rd.put (L := (w.heap.size, .deferred (some [])) :: objs L') (hRd.trans hfA) (.loop { rec .ready none with state := .busy })
      have hs2 := Rd.put (L := (w.heap.size, .deferred (some [])) :: objs L') hfA (.loop { rec .ready none with state := .busy })
      generalize W'.putObj (w.heap.size + 1) (.loop { rec .ready none with state := .busy }) = W2 at *
      have hIn : In L0 w L' W2 := in_of_full (E0 := [(w.heap.size + 1, .loop (rec .ready none)), (w.heap.size, .deferred (some []))]) (E := [(w.heap.size + 1, .loop { rec .ready none with state := .busy }), (w.heap.size, .deferred (some []))]) hbW rfl hE0 hRd2
      refine wpIn_mono (hbody _ k L L' a1 W2 hI hAA hIn hkn) ?_
      have fin : ∀ (jump : Option Code) (L2 : List (Nat × Array Value × TypeId)) (W3 : World), In L' W2 L2 W3 →
          ∃ W4, (Instr.endRound (w.heap.size + 1) jump).run P W3 = .ok (.bool jump.isNone) W4 ∧
            Rd ([(w.heap.size + 1, .loop (rec .ready none)), (w.heap.size, .deferred (some []))] ++ objs L) W ([(w.heap.size + 1, .loop (rec (if jump.isNone then .ready else .done) jump)), (w.heap.size, .deferred (some []))] ++ objs L2) W4 := fun jump L2 W3 h3 => by
        have hf := Rd.frame (E := [(w.heap.size + 1, .loop { rec .ready none with state := .busy }), (w.heap.size, .deferred (some []))]) h3.rd hRd2.holds
        have hl3 : W3.heap[w.heap.size + 1]? = some (.loop { rec .ready none with state := .busy }) := hf.holds.1 _ (List.mem_cons_self ..)
        have hr := run_endRound (P := P) jump hl3
        refine ⟨_, hr, ?_⟩
        have h5 := Rd.put (L := (w.heap.size, .deferred (some [])) :: objs L2) (hs2.trans hf) (.loop (rec (if jump.isNone then .ready else .done) jump))
        rw [hrec] at h5 ⊢
        exact h5
      rintro e a3 W3 hp
      cases e with
      | normal =>
        obtain ⟨L2, h3, hi3⟩ := hp
        obtain ⟨W4, hr, h4⟩ := fin none L2 W3 h3
        exact ⟨_, _, hr, _, h4, .inl ⟨rfl, L2, rfl, hi3⟩⟩
      | ret =>
        obtain ⟨L2, h3, hi3⟩ := hp
        obtain ⟨W4, hr, h4⟩ := fin (some .ret) L2 W3 h3
        exact ⟨_, _, hr, _, h4, .inr ⟨rfl, L2, .ret, rfl, hi3⟩⟩
      | exit id =>
        obtain ⟨L2, h3, hi3⟩ := hp
        obtain ⟨W4, hr, h4⟩ := fin (some (.exit id)) L2 W3 h3
        exact ⟨_, _, hr, _, h4, .inr ⟨rfl, L2, .exit id, rfl, hi3⟩⟩
      | goto t =>
        obtain ⟨L2, h3, hi3⟩ := hp
        obtain ⟨W4, hr, h4⟩ := fin (some (.goto t)) L2 W3 h3
        exact ⟨_, _, hr, _, h4, .inr ⟨rfl, L2, .goto t, rfl, hi3⟩⟩
      | panic ch => exact hp.elim
      | outgrown => exact hp.elim
    · -- BEHIND THE ITERATOR
      rintro e W2 ⟨⟨v, rfl⟩, L', hRd, (⟨n, hN, L, rfl, hI⟩ | ⟨L, c, rfl, hI⟩)⟩
      · have hl : W2.heap[w.heap.size + 1]? = some (.loop (rec .ready none)) := hRd.holds.1 _ (List.mem_cons_self ..)
        have hr := run_endLoop (P := P) hl (by rw [hrec]; simp)
        have hR2 := Rd.put (L := (w.heap.size, .deferred (some [])) :: objs L) hRd (.loop (rec .exhausted (none)))
        rw [show ({ rec .ready none with state := .exhausted } : Loop) = rec .exhausted (none) by rw [hrec], show (rec .ready none).pending = none by rw [hrec]] at hr
        refine ⟨none, _, hr, ?_⟩
        exact hdone w.heap.size n L _ hN hI (in_of_full (E0 := [(w.heap.size + 1, .loop (rec .ready none)), (w.heap.size, .deferred (some []))]) (E := [(w.heap.size + 1, .loop (rec .exhausted (none))), (w.heap.size, .deferred (some []))]) hbW rfl hE0 hR2) (hR2.holds.1 _ (List.mem_cons_of_mem _ (List.mem_cons_self ..))) (Nat.le_refl _)
      · have hl : W2.heap[w.heap.size + 1]? = some (.loop (rec .done (some c))) := hRd.holds.1 _ (List.mem_cons_self ..)
        have hr := run_endLoop (P := P) hl (by rw [hrec]; simp)
        have hR2 := Rd.put (L := (w.heap.size, .deferred (some [])) :: objs L) hRd (.loop (rec .exhausted (some c)))
        rw [show ({ rec .done (some c) with state := .exhausted } : Loop) = rec .exhausted (some c) by rw [hrec], show (rec .done (some c)).pending = some c by rw [hrec]] at hr
        refine ⟨some c, _, hr, ?_⟩
        exact (wpIn_wide (n := 0)).2 (hstop w.heap.size c L _ hI (in_of_full (E0 := [(w.heap.size + 1, .loop (rec .ready none)), (w.heap.size, .deferred (some []))]) (E := [(w.heap.size + 1, .loop (rec .exhausted (some c))), (w.heap.size, .deferred (some []))]) hbW rfl hE0 hR2) (hR2.holds.1 _ (List.mem_cons_of_mem _ (List.mem_cons_self ..))) (Nat.le_refl _))
theorem wp_range_box {P : Program} {g : Operand} {ps : Array Tmp} {assign body : Code} {Q : Exit → Act → World → Prop} {a : Act} {w : World}
    {gf : Nat} {lb : Array Value} (hg : a.eval g = .func (.func gf) #[] lb) (eg : ∀ args w, (callFunc gf args).run P w = .ok (.enter gf args) w)
    {els : Nat → Array Value} {N : Option Nat} {R : List Nat} {W0 : World} (hit : IterAt P gf lb els N R W0) (hb0 : Below W0.heap.size W0 w) (hps : ∀ k, (els k).size = ps.size)
    (I : Nat → List (Nat × Array Value × TypeId) → Prop) (Ix : Code → List (Nat × Array Value × TypeId) → Prop) (M : Nat) (hM : N = none → ∀ k L, I k L → k < M)
    (L0 : List (Nat × Array Value × TypeId)) (h0 : I 0 L0) (hH : Holds w (objs L0)) (hR : ∀ b ∈ R, b < w.heap.size ∧ b ∉ L0.map (·.1)) (bx : Nat → Array Value) (bt : TypeId) (act1 : Nat → Nat → Act)
    (hassign : ∀ (l k : Nat) (L : List (Nat × Array Value × TypeId)) (W : World), I k L → In L0 w L W → ∀ K : Act → World → Prop, (∀ b W', In L W ((b, bx k, bt) :: L) W' → K (act1 k b) W') →
      assign.wpIn (Fence.wide.inRound l) 0 P (Exit.then K (fun _ _ _ => False)) { tmps := (ps.zip (els k)).foldl (fun t (p, v) => t.setIfInBounds p v) a.tmps, defers := [] } W)
    (hbody : ∀ (l k : Nat) (L : List (Nat × Array Value × TypeId)) (b : Nat) (W : World), I k L → In L0 w ((b, bx k, bt) :: L) W → (∀ n, N = some n → k < n) → body.wpIn (Fence.wide.inRound l) 0 P (roundEnd (I (k + 1)) Ix ((b, bx k, bt) :: L) W) (act1 k b) W)
    (hdone : ∀ (D n : Nat) (L : List (Nat × Array Value × TypeId)) (W : World), N = some n → I n L → In L0 w L W → W.heap[D]? = some (.deferred (some [])) → w.heap.size ≤ D → Q .normal { a with defers := { target := .collected D, args := #[] } :: a.defers } W)
    (hstop : ∀ (D : Nat) (c : Code) (L : List (Nat × Array Value × TypeId)) (W : World), Ix c L → In L0 w L W → W.heap[D]? = some (.deferred (some [])) → w.heap.size ≤ D → c.wp P Q { a with defers := { target := .collected D, args := #[] } :: a.defers } W) :
    (Code.rangeFunc g ps assign body).wp P Q a w := by
  refine wp_range2 hg eg hit hb0 hps I Ix M hM L0 h0 hH hR (fun k L L' a => ∃ b, L' = (b, bx k, bt) :: L ∧ a = act1 k b) (fun l k L W hI hIn K hK => hassign l k L W hI hIn K fun b W' hW => hK _ _ _ hW ⟨b, rfl, rfl⟩) ?_ hdone hstop
  rintro l k L L' a1 W hI ⟨b, rfl, rfl⟩ hIn hN
  exact hbody l k L b W hI hIn hN
end Go.Proofs.Ytkfggilildiflac

namespace Go.Proofs.Ytkfggilildiflac
open Go.RowKit
theorem wp_range_plain {P : Program} {g : Operand} {ps : Array Tmp} {assign body : Code} {Q : Exit → Act → World → Prop} {a : Act} {w : World}
    {gf : Nat} {lb : Array Value} (hg : a.eval g = .func (.func gf) #[] lb) (eg : ∀ args w, (callFunc gf args).run P w = .ok (.enter gf args) w)
    {els : Nat → Array Value} {N : Option Nat} {R : List Nat} {W0 : World} (hit : IterAt P gf lb els N R W0) (hb0 : Below W0.heap.size W0 w) (hps : ∀ k, (els k).size = ps.size)
    (I : Nat → List Blk → Prop) (Ix : Code → List Blk → Prop) (M : Nat) (hM : N = none → ∀ k L, I k L → k < M)
    (L0 : List Blk) (h0 : I 0 L0) (hH : Holds w (objs L0)) (hR : ∀ b ∈ R, b < w.heap.size ∧ b ∉ L0.map (·.1)) (act1 : Nat → Act)
    (hassign : ∀ (l k : Nat) (L : List Blk) (W : World), I k L → In L0 w L W → ∀ K : Act → World → Prop, (∀ W', In L W L W' → K (act1 k) W') →
      assign.wpIn (Fence.wide.inRound l) 0 P (Exit.then K (fun _ _ _ => False)) { tmps := (ps.zip (els k)).foldl (fun t (p, v) => t.setIfInBounds p v) a.tmps, defers := [] } W)
    (hbody : ∀ (l k : Nat) (L : List Blk) (W : World), I k L → In L0 w L W → (∀ n, N = some n → k < n) → body.wpIn (Fence.wide.inRound l) 0 P (roundEnd (I (k + 1)) Ix L W) (act1 k) W)
    (hdone : ∀ (D n : Nat) (L : List Blk) (W : World), N = some n → I n L → In L0 w L W → W.heap[D]? = some (.deferred (some [])) → w.heap.size ≤ D → Q .normal { a with defers := { target := .collected D, args := #[] } :: a.defers } W)
    (hstop : ∀ (D : Nat) (c : Code) (L : List Blk) (W : World), Ix c L → In L0 w L W → W.heap[D]? = some (.deferred (some [])) → w.heap.size ≤ D → c.wp P Q { a with defers := { target := .collected D, args := #[] } :: a.defers } W) :
    (Code.rangeFunc g ps assign body).wp P Q a w := by
  refine wp_range2 hg eg hit hb0 hps I Ix M hM L0 h0 hH hR (fun k L L' a => L' = L ∧ a = act1 k) (fun l k L W hI hIn K hK => hassign l k L W hI hIn K fun W' hW => hK _ _ _ hW ⟨rfl, rfl⟩) ?_ hdone hstop
  rintro l k L L' a1 W hI ⟨rfl, rfl⟩ hIn hN
  exact hbody l k L' W hI hIn hN
/-- What came in is as it was, wherever a round stands. -/
theorem In.bytes {w0 w W : World} {L0 L : List Blk} (h : St w0 w L0) (h2 : In L0 w L W) {v : Value} {l : List UInt8} (hv : BytesAt w0 v l) : BytesAt W v l := hv.below (h.range h2).below
end Go.Proofs.Ytkfggilildiflac

namespace Go.Proofs.Ytkfggilildiflac
open Go.ChangeShapes Go.WideShapes Go.ChangeAt Go.RowKit
attribute [local irreducible] wpList wpListIn
def rgs (l : List Rg) : List Value := l.flatMap fun g => [.int .i64 g.1, .int .i64 g.2]
theorem rgs_nil : rgs [] = [] := rfl
theorem rgs_cons (g : Rg) (l : List Rg) : rgs (g :: l) = .int .i64 g.1 :: .int .i64 g.2 :: rgs l := rfl
theorem rgs_app (l m : List Rg) : rgs (l ++ m) = rgs l ++ rgs m := by unfold rgs; rw [List.flatMap_append]
theorem rgs_len (l : List Rg) : (rgs l).length = l.length * 2 := by
  induction l with
  | nil => rfl
  | cons g l ih => rw [rgs_cons]; simp only [List.length_cons, ih]; omega
theorem rgs_at : ∀ {l : List Rg} {i : Nat}, i < l.length → (rgs l)[i * 2]? = some (.int .i64 (l.getD i (0, 0)).1) ∧ (rgs l)[i * 2 + 1]? = some (.int .i64 (l.getD i (0, 0)).2)
  | [], i, h => by simp at h
  | g :: l, 0, _ => ⟨rfl, rfl⟩
  | g :: l, i + 1, h => by
    have := rgs_at (l := l) (i := i) (by simpa using h)
    rw [rgs_cons, show (i + 1) * 2 = i * 2 + 2 by omega, show i * 2 + 2 + 1 = i * 2 + 1 + 2 by omega]
    simpa using this
def RegsAt (w : World) (v : Value) (l : List Rg) : Prop :=
  ∃ p c, v = .slice p l.length c ∧ l.length ≤ c ∧ (p = none → c = 0) ∧ (l ≠ [] → ∃ b o cs t fr, p = some ⟨b, o, none⟩ ∧ blk w b = some (.cells cs t fr) ∧ ∀ i x, (rgs l)[i]? = some x → cs.toList[o + i]? = some x)
theorem RegsAt.below {w w' : World} {v : Value} {l : List Rg} (h : RegsAt w v l) (hb : Below w.heap.size w w') : RegsAt w' v l := by
  obtain ⟨p, c, h1, h2, h3, h4⟩ := h
  refine ⟨p, c, h1, h2, h3, fun hn => ?_⟩
  obtain ⟨b, o, cs, t, fr, e1, e2, e3⟩ := h4 hn
  exact ⟨b, o, cs, t, fr, e1, (hb.block b (blk_lt e2)).trans e2, e3⟩
theorem RegsAt.slice {w : World} {v : Value} {l : List Rg} (h : RegsAt w v l) : ∃ p c, v = .slice p l.length c ∧ l.length ≤ c := by
  obtain ⟨p, c, h1, h2, _⟩ := h; exact ⟨p, c, h1, h2⟩
theorem RegsAt.open_ {w : World} {p : Option Addr} {n c : Nat} {l : List Rg} (h : RegsAt w (.slice p n c) l) (hn : 0 < l.length) :
    ∃ b o cs t fr, p = some ⟨b, o, none⟩ ∧ blk w b = some (.cells cs t fr) ∧ ∀ i x, (rgs l)[i]? = some x → cs.toList[o + i]? = some x := by
  obtain ⟨p', c', h1, h2, h3, h4⟩ := h
  simp only [Value.slice.injEq] at h1
  obtain ⟨rfl, rfl, rfl⟩ := h1
  exact h4 (by rintro rfl; simp at hn)
theorem regsAt_nil (w : World) : RegsAt w (.slice none 0 0) [] := ⟨none, 0, rfl, Nat.le_refl _, fun _ => rfl, fun h => absurd rfl h⟩
theorem regsAt_blk {w : World} {b c : Nat} {l : List Rg} {sp : List Value} {t : TypeId} {fr : Nat × Nat} {n : Nat} (hb : blk w b = some (.cells (rgs l ++ sp).toArray t fr)) (hn : n = l.length) (hc : n ≤ c) : RegsAt w (.slice (some ⟨b, 0, none⟩) n c) l := by
  subst hn
  refine ⟨_, c, rfl, hc, (fun h => by cases h), fun _ => ⟨b, 0, _, t, fr, rfl, hb, fun i x hi => ?_⟩⟩
  rw [Nat.zero_add]
  show (rgs l ++ sp)[i]? = some x
  rw [List.getElem?_append_left (List.getElem?_eq_some_iff.1 hi).1]; exact hi
theorem cut2 {cs : Array Value} {q : Nat} {x y : Value} (h0 : cs.toList[q]? = some x) (h1 : cs.toList[q + 1]? = some y) : cut cs q 2 = #[x, y] := by
  obtain ⟨l⟩ := cs
  simp only at h0 h1
  unfold cut
  split
  · next h =>
    obtain ⟨rfl, hs⟩ := h
    have hl : l.length = 2 := hs
    match l, hl with
    | [a, b], _ => simp at h0 h1; rw [h0, h1]
  · apply Array.ext'
    simp only [List.extract_toArray, List.extract_eq_take_drop]
    apply List.ext_getElem?
    intro i
    rw [List.getElem?_take]
    match i with
    | 0 => simp [h0]
    | 1 => simp [h1]
    | i + 2 => rw [if_neg (by omega)]; rfl
theorem cut_reg {cs : Array Value} {o : Nat} {l : List Rg} (h : ∀ i x, (rgs l)[i]? = some x → cs.toList[o + i]? = some x) {i : Nat} (hi : i < l.length) : cut cs (o + i * 2) 2 = #[.int .i64 (l.getD i (0, 0)).1, .int .i64 (l.getD i (0, 0)).2] :=
  cut2 (h _ _ (rgs_at hi).1) (by rw [Nat.add_assoc]; exact h _ _ (rgs_at hi).2)
theorem who_cell {cs : Array Value} {o : Nat} {l : List Rg} (h : ∀ i x, (rgs l)[i]? = some x → cs.toList[o + i]? = some x) {i : Nat} (hi : i < l.length) : cs[o + i * 2]? = some (.int .i64 (l.getD i (0, 0)).1) := by
  rw [← Array.getElem?_toList]; exact h _ _ (rgs_at hi).1
theorem key_cell {cs : Array Value} {o : Nat} {l : List Rg} (h : ∀ i x, (rgs l)[i]? = some x → cs.toList[o + i]? = some x) {i : Nat} (hi : i < l.length) : cs[o + i * 2 + 1]? = some (.int .i64 (l.getD i (0, 0)).2) := by
  rw [← Array.getElem?_toList, Nat.add_assoc]; exact h _ _ (rgs_at hi).2
theorem csz_reg {cs : Array Value} {o : Nat} {l : List Rg} (h : ∀ i x, (rgs l)[i]? = some x → cs.toList[o + i]? = some x) {i : Nat} (hi : i < l.length) : o + i * 2 + 2 ≤ csz cs := by
  have h1 := h _ _ (rgs_at hi).2
  have := (List.getElem?_eq_some_iff.1 h1).1
  unfold csz
  simp only [Array.length_toList] at this
  omega
theorem run_res_rowT {P : Program} {ty n : Nat} (hr : isRow P ty n = true) (w : World) (g : Nat) (cs : Array Value) (t : TypeId) (fr : Nat × Nat) (hg : blk w g = some (.cells cs t fr)) (hs : cs.size = n) : (loadVar ty ⟨g, 0, none⟩).run P w = .ok (.agg cs) w := by
  simp only [isRow, Bool.and_eq_true, beq_iff_eq] at hr
  cases hu : P.underlying ty with
  | none => simp [hu] at hr
  | some d =>
    simp only [hu] at hr
    refine run_loadVar_row w g t ty cs fr d hg hu ?_ (by rw [hr.2, hs])
    cases d <;> simp_all
/-- The end of a function with a result in a cell and one in a slot. -/
theorem De {P : Program} {fn : Func} {p u ty n : Nat} (hres : fn.results = #[.cell p ty, .tmp u]) (hr : isRow P ty n = true) {R : Ending → World → Prop} {a : Act} {w : World} {e : Exit} (he : e = .ret ∨ e = .normal)
    (g : Nat) (cs : Array Value) (t : TypeId) (fr : Nat × Nat) (hp : a.tmps.getD p undef = .pointer (some ⟨g, 0, none⟩)) (hd : a.defers = []) (hg : blk w g = some (.cells cs t fr)) (hs : cs.size = n) (hR : R (.returned (.tuple #[.agg cs, a.tmps.getD u undef])) w) :
    bodyPost P fn R e a w := by
  have h1 : (results fn a.tmps).run P w = .ok (.tuple #[.agg cs, a.tmps.getD u undef]) w := by
    have hp' : a.tmps[p]?.getD undef = .pointer (some ⟨g, 0, none⟩) := by simpa using hp
    simp [results, hres, hp', asAddr, run_res_rowT hr w g cs t fr hg hs]
  rcases he with rfl | rfl
  · exact bodyPost_ret h1 hd hR
  · exact bodyPost_end h1 hd hR
/-! ### The program's small words -/
theorem held_any (sv : Value) (h t g : Int) (s : Bool) (w0 : World) : Calls Try.prog 39 #[.agg #[sv, .int .i64 h, .int .i64 t, .bool s, .int .i64 g]] w0 fun e w' => e = .returned (.bool (decide (h ≠ -1))) ∧ Below w0.heap.size w0 w' := by
  have hS := St.start w0
  go_enter Try.func39, Try.ntmps39
  by_cases hh : h = -1
  · subst hh
    repeat' (first | ((with_reducible refine Ad ?_); first | ((first | refine Bn Aa ?_ | refine Bm Aa ?_ | refine Az Aa ?_ | refine Bf Aa Ab hS ?_ | refine Bi Aa Ab hS ?_ | refine Ag Aa ?_ | refine Af Aa ?_ | refine Bs Aa ?_ | refine Bx Aa ?_ | refine Ao Aa ?_ | refine Bw Aa ?_ | refine Br Aa ?_ | refine Be Aa ?_ | refine Bg Aa ?_ | refine Bv Aa (fun hc => ?_) (fun hc => ?_) | refine Ay Aa ?_ | refine Am Aa ?_ | refine Aw Aa ?_ | refine Ap Aa ?_ | refine Ah Aa ?_ | refine Ax Aa ?_ | refine Ar Aa ?_ | refine Aj Aa ?_ | refine Ae Aa ?_ | refine Ai Aa ?_ | refine Bp Aa ?_ | refine Bo Aa ?_ | refine Bu Aa ?_ | refine Bc Aa ?_ | refine As Aa ?_ | refine Ak Aa ?_) <;> refine Ac ?_) | ((first | refine Bh Aa Ab hS ?_ | refine Bt Aa Ab hS ?_ | refine Ba Aa Ab hS ?_ | refine Bd Aa Ab hS ?_); clear hS; intro b w hS; refine Ac ?_) | ((first | refine Av Aa Ab hS ?_ | refine Au Aa Ab hS ?_); clear hS; intro w hS; refine Ac ?_)) | ((fail_if_success (with_reducible refine Ad ?_)); first | go_step | go_step3 | rw [Exit.noGoto_normal] | rw [Exit.noGoto_ret] | rw [Exit.noGoto_exit]))
    go_ret
    exact ⟨rfl, hS.below⟩
  · repeat' (first | ((with_reducible refine Ad ?_); first | ((first | refine Bn Aa ?_ | refine Bm Aa ?_ | refine Az Aa ?_ | refine Bf Aa Ab hS ?_ | refine Bi Aa Ab hS ?_ | refine Ag Aa ?_ | refine Af Aa ?_ | refine Bs Aa ?_ | refine Bx Aa ?_ | refine Ao Aa ?_ | refine Bw Aa ?_ | refine Br Aa ?_ | refine Be Aa ?_ | refine Bg Aa ?_ | refine Bv Aa (fun hc => ?_) (fun hc => ?_) | refine Ay Aa ?_ | refine Am Aa ?_ | refine Aw Aa ?_ | refine Ap Aa ?_ | refine Ah Aa ?_ | refine Ax Aa ?_ | refine Ar Aa ?_ | refine Aj Aa ?_ | refine Ae Aa ?_ | refine Ai Aa ?_ | refine Bp Aa ?_ | refine Bo Aa ?_ | refine Bu Aa ?_ | refine Bc Aa ?_ | refine As Aa ?_ | refine Ak Aa ?_) <;> refine Ac ?_) | ((first | refine Bh Aa Ab hS ?_ | refine Bt Aa Ab hS ?_ | refine Ba Aa Ab hS ?_ | refine Bd Aa Ab hS ?_); clear hS; intro b w hS; refine Ac ?_) | ((first | refine Av Aa Ab hS ?_ | refine Au Aa Ab hS ?_); clear hS; intro w hS; refine Ac ?_)) | ((fail_if_success (with_reducible refine Ad ?_)); first | go_step | go_step3 | rw [Exit.noGoto_normal] | rw [Exit.noGoto_ret] | rw [Exit.noGoto_exit]))
    go_ret
    exact ⟨by simp [hh], hS.below⟩
theorem shared_any (sv : Value) (h t g : Int) (s : Bool) (w0 : World) : Calls Try.prog 43 #[.agg #[sv, .int .i64 h, .int .i64 t, .bool s, .int .i64 g]] w0 fun e w' => e = .returned (.bool (decide (t = 5 ∨ t = 6))) ∧ Below w0.heap.size w0 w' := by
  have hS := St.start w0
  go_enter Try.func43, Try.ntmps43
  repeat' (first | ((with_reducible refine Ad ?_); first | ((first | refine Bn Aa ?_ | refine Bm Aa ?_ | refine Az Aa ?_ | refine Bf Aa Ab hS ?_ | refine Bi Aa Ab hS ?_ | refine Ag Aa ?_ | refine Af Aa ?_ | refine Bs Aa ?_ | refine Bx Aa ?_ | refine Ao Aa ?_ | refine Bw Aa ?_ | refine Br Aa ?_ | refine Be Aa ?_ | refine Bg Aa ?_ | refine Bv Aa (fun hc => ?_) (fun hc => ?_) | refine Ay Aa ?_ | refine Am Aa ?_ | refine Aw Aa ?_ | refine Ap Aa ?_ | refine Ah Aa ?_ | refine Ax Aa ?_ | refine Ar Aa ?_ | refine Aj Aa ?_ | refine Ae Aa ?_ | refine Ai Aa ?_ | refine Bp Aa ?_ | refine Bo Aa ?_ | refine Bu Aa ?_ | refine Bc Aa ?_ | refine As Aa ?_ | refine Ak Aa ?_) <;> refine Ac ?_) | ((first | refine Bh Aa Ab hS ?_ | refine Bt Aa Ab hS ?_ | refine Ba Aa Ab hS ?_ | refine Bd Aa Ab hS ?_); clear hS; intro b w hS; refine Ac ?_) | ((first | refine Av Aa Ab hS ?_ | refine Au Aa Ab hS ?_); clear hS; intro w hS; refine Ac ?_)) | ((fail_if_success (with_reducible refine Ad ?_)); first | go_step | go_step3 | rw [Exit.noGoto_normal] | rw [Exit.noGoto_ret] | rw [Exit.noGoto_exit]))
  all_goals
    go_ret
    exact ⟨by simp [*], hS.below⟩
theorem typed_any (t : Int) (w0 : World) : Calls Try.prog 41 #[.int .i64 t] w0 fun e w' => e = .returned (.bool (decide (1 ≤ t ∧ t ≤ 6))) ∧ Below w0.heap.size w0 w' := by
  have hS := St.start w0
  go_enter Try.func41, Try.ntmps41
  repeat' (first | ((with_reducible refine Ad ?_); first | ((first | refine Bn Aa ?_ | refine Bm Aa ?_ | refine Az Aa ?_ | refine Bf Aa Ab hS ?_ | refine Bi Aa Ab hS ?_ | refine Ag Aa ?_ | refine Af Aa ?_ | refine Bs Aa ?_ | refine Bx Aa ?_ | refine Ao Aa ?_ | refine Bw Aa ?_ | refine Br Aa ?_ | refine Be Aa ?_ | refine Bg Aa ?_ | refine Bv Aa (fun hc => ?_) (fun hc => ?_) | refine Ay Aa ?_ | refine Am Aa ?_ | refine Aw Aa ?_ | refine Ap Aa ?_ | refine Ah Aa ?_ | refine Ax Aa ?_ | refine Ar Aa ?_ | refine Aj Aa ?_ | refine Ae Aa ?_ | refine Ai Aa ?_ | refine Bp Aa ?_ | refine Bo Aa ?_ | refine Bu Aa ?_ | refine Bc Aa ?_ | refine As Aa ?_ | refine Ak Aa ?_) <;> refine Ac ?_) | ((first | refine Bh Aa Ab hS ?_ | refine Bt Aa Ab hS ?_ | refine Ba Aa Ab hS ?_ | refine Bd Aa Ab hS ?_); clear hS; intro b w hS; refine Ac ?_) | ((first | refine Av Aa Ab hS ?_ | refine Au Aa Ab hS ?_); clear hS; intro w hS; refine Ac ?_)) | ((fail_if_success (with_reducible refine Ad ?_)); first | go_step | go_step3 | rw [Exit.noGoto_normal] | rw [Exit.noGoto_ret] | rw [Exit.noGoto_exit]))
  all_goals
    go_ret
    exact ⟨by simp [*], hS.below⟩
def cmpI (a b : Int) : Int := if a < b then -1 else if b < a then 1 else 0
theorem isNaN_any (x : Int) (w0 : World) : Calls Try.prog 67 #[.int .i64 x] w0 fun e w' => e = .returned (.bool false) ∧ Below w0.heap.size w0 w' := by
  have hS := St.start w0
  go_enter Try.func67, Try.ntmps67
  repeat' (first | ((with_reducible refine Ad ?_); first | ((first | refine Bn Aa ?_ | refine Bm Aa ?_ | refine Az Aa ?_ | refine Bf Aa Ab hS ?_ | refine Bi Aa Ab hS ?_ | refine Ag Aa ?_ | refine Af Aa ?_ | refine Bs Aa ?_ | refine Bx Aa ?_ | refine Ao Aa ?_ | refine Bw Aa ?_ | refine Br Aa ?_ | refine Be Aa ?_ | refine Bg Aa ?_ | refine Bv Aa (fun hc => ?_) (fun hc => ?_) | refine Ay Aa ?_ | refine Am Aa ?_ | refine Aw Aa ?_ | refine Ap Aa ?_ | refine Ah Aa ?_ | refine Ax Aa ?_ | refine Ar Aa ?_ | refine Aj Aa ?_ | refine Ae Aa ?_ | refine Ai Aa ?_ | refine Bp Aa ?_ | refine Bo Aa ?_ | refine Bu Aa ?_ | refine Bc Aa ?_ | refine As Aa ?_ | refine Ak Aa ?_) <;> refine Ac ?_) | ((first | refine Bh Aa Ab hS ?_ | refine Bt Aa Ab hS ?_ | refine Ba Aa Ab hS ?_ | refine Bd Aa Ab hS ?_); clear hS; intro b w hS; refine Ac ?_) | ((first | refine Av Aa Ab hS ?_ | refine Au Aa Ab hS ?_); clear hS; intro w hS; refine Ac ?_)) | ((fail_if_success (with_reducible refine Ad ?_)); first | go_step | go_step3 | rw [Exit.noGoto_normal] | rw [Exit.noGoto_ret] | rw [Exit.noGoto_exit]))
  all_goals
    go_ret
    exact ⟨rfl, hS.below⟩
theorem compare_any (x y : Int) (w0 : World) : Calls Try.prog 58 #[.int .i64 x, .int .i64 y] w0 fun e w' => e = .returned (.int .i64 (cmpI x y)) ∧ Below w0.heap.size w0 w' := by
  have hS := St.start w0
  go_enter Try.func58, Try.ntmps58
  repeat' (first | ((with_reducible refine Ad ?_); first | ((first | refine Bn Aa ?_ | refine Bm Aa ?_ | refine Az Aa ?_ | refine Bf Aa Ab hS ?_ | refine Bi Aa Ab hS ?_ | refine Ag Aa ?_ | refine Af Aa ?_ | refine Bs Aa ?_ | refine Bx Aa ?_ | refine Ao Aa ?_ | refine Bw Aa ?_ | refine Br Aa ?_ | refine Be Aa ?_ | refine Bg Aa ?_ | refine Bv Aa (fun hc => ?_) (fun hc => ?_) | refine Ay Aa ?_ | refine Am Aa ?_ | refine Aw Aa ?_ | refine Ap Aa ?_ | refine Ah Aa ?_ | refine Ax Aa ?_ | refine Ar Aa ?_ | refine Aj Aa ?_ | refine Ae Aa ?_ | refine Ai Aa ?_ | refine Bp Aa ?_ | refine Bo Aa ?_ | refine Bu Aa ?_ | refine Bc Aa ?_ | refine As Aa ?_ | refine Ak Aa ?_) <;> refine Ac ?_) | ((first | refine Bh Aa Ab hS ?_ | refine Bt Aa Ab hS ?_ | refine Ba Aa Ab hS ?_ | refine Bd Aa Ab hS ?_); clear hS; intro b w hS; refine Ac ?_) | ((first | refine Av Aa Ab hS ?_ | refine Au Aa Ab hS ?_); clear hS; intro w hS; refine Ac ?_) | (refine Cb Aa Ab hS (isNaN_any _ _) ?_; clear hS; intro w hS; refine Ac ?_)) | ((fail_if_success (with_reducible refine Ad ?_)); first | go_step | go_step3 | rw [Exit.noGoto_normal] | rw [Exit.noGoto_ret] | rw [Exit.noGoto_exit]))
  all_goals
    go_ret
    exact ⟨by unfold cmpI; simp [*], hS.below⟩
end Go.Proofs.Ytkfggilildiflac

namespace Go.Proofs.Ytkfggilildiflac
open Go.ChangeShapes Go.WideShapes Go.ChangeAt Go.RowKit
attribute [local irreducible] wpList wpListIn
theorem find1_any (x y n : Int) (w0 : World) : Calls Try.prog 57 #[.agg #[.int .i64 x, .int .i64 y], .int .i64 n] w0 fun e w' => e = .returned (.int .i64 (cmpI x n)) ∧ Below w0.heap.size w0 w' := by
  have hS := St.start w0
  go_enter Try.func57, Try.ntmps57
  repeat' (first | ((with_reducible refine Ad ?_); first | ((first | refine Bn Aa ?_ | refine Bm Aa ?_ | refine Az Aa ?_ | refine Bf Aa Ab hS ?_ | refine Bi Aa Ab hS ?_ | refine Ag Aa ?_ | refine Af Aa ?_ | refine Bs Aa ?_ | refine Bx Aa ?_ | refine Ao Aa ?_ | refine Bw Aa ?_ | refine Br Aa ?_ | refine Be Aa ?_ | refine Bg Aa ?_ | refine Bv Aa (fun hc => ?_) (fun hc => ?_) | refine Ay Aa ?_ | refine Am Aa ?_ | refine Aw Aa ?_ | refine Ap Aa ?_ | refine Ah Aa ?_ | refine Ax Aa ?_ | refine Ar Aa ?_ | refine Aj Aa ?_ | refine Ae Aa ?_ | refine Ai Aa ?_ | refine Bp Aa ?_ | refine Bo Aa ?_ | refine Bu Aa ?_ | refine Bc Aa ?_ | refine As Aa ?_ | refine Ak Aa ?_) <;> refine Ac ?_) | ((first | refine Bh Aa Ab hS ?_ | refine Bt Aa Ab hS ?_ | refine Ba Aa Ab hS ?_ | refine Bd Aa Ab hS ?_); clear hS; intro b w hS; refine Ac ?_) | ((first | refine Av Aa Ab hS ?_ | refine Au Aa Ab hS ?_); clear hS; intro w hS; refine Ac ?_) | (refine Cb Aa Ab hS (compare_any _ _ _) ?_; clear hS; intro w hS; refine Ac ?_)) | ((fail_if_success (with_reducible refine Ad ?_)); first | go_step | go_step3 | rw [Exit.noGoto_normal] | rw [Exit.noGoto_ret] | rw [Exit.noGoto_exit]))
  go_ret
  exact ⟨rfl, hS.below⟩
theorem find1_c {C : Int} (x y n : Int) (hC : cmpI x n = C) (w0 : World) : Calls Try.prog 57 #[.agg #[.int .i64 x, .int .i64 y], .int .i64 n] w0 fun e w' => e = .returned (.int .i64 C) ∧ Below w0.heap.size w0 w' := by
  subst hC; exact find1_any x y n w0
theorem cmpI_neg {a b : Int} : cmpI a b < 0 ↔ a < b := by
  unfold cmpI; split
  · simp [*]
  · split
    · simp [*]
    · simp [*]
theorem cmpI_zero {a b : Int} : cmpI a b = 0 ↔ a = b := by
  unfold cmpI; split
  · constructor
    · intro h; cases h
    · intro h; omega
  · split
    · constructor
      · intro h; cases h
      · intro h; omega
    · constructor
      · intro _; omega
      · intro _; rfl
theorem idx_of {l : List Rg} {who : Int} {i : Nat} (hi : i ≤ l.length) (h1 : ∀ k, k < i → (l.getD k (0, 0)).1 < who) (h2 : ∀ k, i ≤ k → k < l.length → who ≤ (l.getD k (0, 0)).1) : idxR l who = i := by
  induction l generalizing i with
  | nil => simp at hi; subst hi; rfl
  | cons g l ih =>
    unfold idxR
    rw [List.takeWhile_cons]
    cases i with
    | zero =>
      have := h2 0 (Nat.le_refl _) (by simp)
      simp only [List.getD_cons_zero] at this
      rw [if_neg (by simp; omega)]; rfl
    | succ i =>
      have := h1 0 (by omega)
      simp only [List.getD_cons_zero] at this
      rw [if_pos (by simpa using this), List.length_cons]
      congr 1
      exact ih (i := i) (by simpa using hi) (fun k hk => by simpa using h1 (k + 1) (by omega)) fun k hk hk2 => by simpa using h2 (k + 1) (by omega) (by simp; omega)
theorem has_of {l : List Rg} {who : Int} (hl : okL l) {i : Nat} (hi : idxR l who = i) : hasR l who = (decide (i < l.length) && decide ((l.getD i (0, 0)).1 = who)) := by
  subst hi
  cases hb : hasR l who with
  | true =>
    have h1 := at_idx hl hb
    have h2 := idx_lt hl hb
    have h3 : (l.getD (idxR l who) (0, 0)).1 = who := by rw [List.getD_eq_getElem?_getD, h1]; rfl
    rw [h3]; simp [h2]
  | false =>
    symm
    rw [Bool.eq_false_iff]
    intro h
    simp only [Bool.and_eq_true, decide_eq_true_eq] at h
    have : hasR l who = true := by
      unfold hasR
      refine List.any_eq_true.2 ⟨l[idxR l who]'h.1, List.getElem_mem _, ?_⟩
      have h2 := h.2
      rw [List.getD_eq_getElem?_getD, List.getElem?_eq_getElem h.1] at h2
      simpa using h2
    rw [hb] at this; cases this
theorem okL_lt2 : ∀ {l : List Rg} {i j : Nat}, okL l → i < j → j < l.length → (l.getD i (0, 0)).1 < (l.getD j (0, 0)).1
  | [], i, j, _, _, h => by simp at h
  | g :: l, 0, j + 1, h, _, hj => by
    have hj2 : j < l.length := by simpa using hj
    have := okL_lt h (l[j]) (List.getElem_mem _)
    simpa [List.getD_eq_getElem?_getD, List.getElem?_eq_getElem hj2] using this
  | g :: l, i + 1, j + 1, h, hij, hj => by
    have := okL_lt2 (i := i) (j := j) (okL_tail h) (by omega) (by simpa using hj)
    simpa using this
set_option maxRecDepth 100000 in
set_option maxHeartbeats 4000000 in
theorem bsearch_any (l : List Rg) (hl : okL l) (who : Int) (v : Value) (w0 : World) (hv : RegsAt w0 v l) (hm : l.length ≤ 1000000) :
    Calls Try.prog 56 #[v, .int .i64 who, .func (.func 57) #[] #[]] w0 fun e w' => e = .returned (.tuple #[.int .i64 (idxR l who : Int), .bool (hasR l who)]) ∧ Below w0.heap.size w0 w' := by
  obtain ⟨p, c, rfl, hc⟩ := hv.slice
  have hS := St.start w0
  go_enter Try.func56, Try.ntmps56
  repeat' (first | ((with_reducible refine Ad ?_); first | ((first | refine Bn Aa ?_ | refine Bm Aa ?_ | refine Az Aa ?_ | refine Bf Aa Ab hS ?_ | refine Bi Aa Ab hS ?_ | refine Ag Aa ?_ | refine Af Aa ?_ | refine Bs Aa ?_ | refine Bx Aa ?_ | refine Ao Aa ?_ | refine Bw Aa ?_ | refine Br Aa ?_ | refine Be Aa ?_ | refine Bg Aa ?_ | refine Bv Aa (fun hc => ?_) (fun hc => ?_) | refine Ay Aa ?_ | refine Am Aa ?_ | refine Aw Aa ?_ | refine Ap Aa ?_ | refine Ah Aa ?_ | refine Ax Aa ?_ | refine Ar Aa ?_ | refine Aj Aa ?_ | refine Ae Aa ?_ | refine Ai Aa ?_ | refine Bp Aa ?_ | refine Bo Aa ?_ | refine Bu Aa ?_ | refine Bc Aa ?_ | refine As Aa ?_ | refine Ak Aa ?_) <;> refine Ac ?_) | ((first | refine Bh Aa Ab hS ?_ | refine Bt Aa Ab hS ?_ | refine Ba Aa Ab hS ?_ | refine Bd Aa Ab hS ?_); clear hS; intro b w hS; refine Ac ?_) | ((first | refine Av Aa Ab hS ?_ | refine Au Aa Ab hS ?_); clear hS; intro w hS; refine Ac ?_)) | ((fail_if_success (with_reducible refine Ad ?_)); first | go_step | go_step3 | rw [Exit.noGoto_normal] | rw [Exit.noGoto_ret] | rw [Exit.noGoto_exit]))
  go_loopw [9, 10] (fun u9 u10 wr => ∃ i j : Nat, i ≤ j ∧ j ≤ l.length ∧ u9 = .int .i64 (i : Int) ∧ u10 = .int .i64 (j : Int) ∧ (∀ k, k < i → (l.getD k (0, 0)).1 < who) ∧ (∀ k, j ≤ k → k < l.length → who ≤ (l.getD k (0, 0)).1) ∧ St w0 wr []) (fun u9 u10 _ => (intOf u10).toNat - (intOf u9).toNat)
  case atStart => exact ⟨0, l.length, by omega, by omega, rfl, rfl, fun k hk => by omega, fun k hk hk2 => by omega, hS⟩
  case round =>
    obtain ⟨i, j, hij, hj, rfl, rfl, h1, h2, hS⟩ := hrel
    by_cases hlt : i < j
    · obtain ⟨b, o, cs, t, fr, rfl, hb, hcell⟩ := hv.open_ (by omega)
      obtain ⟨m, hm1⟩ : ∃ m, m = (i + j) / 2 := ⟨_, rfl⟩
      have hmi : i ≤ m := by omega
      have hmj : m < j := by omega
      have q1 := csz_reg hcell (i := m) (by omega)
      have e0 : (i : Int) + (j : Int) = ((i + j : Nat) : Int) := by omega
      obtain ⟨C, hC⟩ : ∃ C, cmpI (l.getD m (0, 0)).1 who = C := ⟨_, rfl⟩
      by_cases hneg : (l.getD m (0, 0)).1 < who
      all_goals
        have hcc := cmpI_neg (a := (l.getD m (0, 0)).1) (b := who)
        rw [hC] at hcc
      · have hcd := hcc.2 hneg
        repeat' (first | ((with_reducible refine Ad ?_); first | ((first | refine Bn Aa ?_ | refine Bm Aa ?_ | refine Az Aa ?_ | refine Bf Aa Ab hS ?_ (hv := by first | rfl | exact Bl | (rw [Array.getElem?_toList]; exact cut_reg hcell (by omega))) | refine Dp Aa (by first | exact ((hS).far hb).1) ?_ (hv := by first | rfl | exact Bl | (rw [Array.getElem?_toList]; exact cut_reg hcell (by omega))) | refine Bi Aa Ab hS ?_ (hv := by first | exact Bq _ _ (by (try simp only [Ca, Ce, Bz, List.length_append, List.length_set, zs_len, List.length_take, List.length_drop, List.length_cons, List.length_nil]); first | done | rfl | omega) | (exact cut_reg hcell (by omega)) | rfl) | refine Dq Aa (by first | exact ((hS).far hb).1) ?_ (hv := by first | exact Bq _ _ (by (try simp only [Ca, Ce, Bz, List.length_append, List.length_set, zs_len, List.length_take, List.length_drop, List.length_cons, List.length_nil]); first | done | rfl | omega) | (exact cut_reg hcell (by omega)) | rfl) | refine Ag Aa ?_ | refine Af Aa ?_ | refine Bs Aa ?_ | refine Bx Aa ?_ | refine Ao Aa ?_ | refine Bw Aa ?_ | refine Br Aa ?_ | refine Be Aa ?_ | refine Bg Aa ?_ | refine Bv Aa (fun hc => ?_) (fun hc => ?_) | refine Ay Aa ?_ | refine Am Aa ?_ | refine Aw Aa ?_ | refine Ap Aa ?_ | refine Ah Aa ?_ | refine Ax Aa ?_ (hv' := by first | rfl | exact Bl | (rw [Array.getElem?_toList]; exact cut_reg hcell (by omega))) | refine Ar Aa ?_ | refine Aj Aa ?_ | refine Ae Aa ?_ | refine Ai Aa ?_ | refine Bp Aa ?_ | refine Bo Aa ?_ | refine Bu Aa ?_ | refine Bc Aa ?_ | refine As Aa ?_ | refine Ak Aa ?_) <;> refine Ac ?_) | ((first | refine Bh Aa Ab hS ?_ | refine Bt Aa Ab hS ?_ | refine Ba Aa Ab hS ?_ | refine Bd Aa Ab hS ?_); clear hS; intro b w hS; refine Ac ?_) | ((first | refine Av Aa Ab hS ?_ | refine Au Aa Ab hS ?_); clear hS; intro w hS; refine Ac ?_) | (refine Stp.go Aa (by rfl) (by rfl) (r_shr1 (q := (m : Int)) (by rfl) (by first | rfl | (show _ = some (Value.int .u64 _); rw [e0]; rfl)) (by rw [hm1]) (by omega)) ?_; refine Ac ?_) | (refine Cb Aa Ab hS (find1_c _ _ _ hC _) ?_; clear hS; intro w hS; refine Ac ?_)) | ((fail_if_success (with_reducible refine Ad ?_)); first | go_step | go_step3 | rw [Exit.noGoto_normal] | rw [Exit.noGoto_ret] | rw [Exit.noGoto_exit]))
        go_roundw
        case rel => exact ⟨m + 1, j, by omega, hj, by push_cast; rfl, rfl, fun k hk => by
          by_cases hkm : k = m
          · subst hkm; exact hneg
          · have := okL_lt2 (i := k) (j := m) hl (by omega) (by omega); omega, h2, hS⟩
        case measure => simp [intOf]; omega
      · have hcd : ¬ C < 0 := fun h => hneg (hcc.1 h)
        repeat' (first | ((with_reducible refine Ad ?_); first | ((first | refine Bn Aa ?_ | refine Bm Aa ?_ | refine Az Aa ?_ | refine Bf Aa Ab hS ?_ (hv := by first | rfl | exact Bl | (rw [Array.getElem?_toList]; exact cut_reg hcell (by omega))) | refine Dp Aa (by first | exact ((hS).far hb).1) ?_ (hv := by first | rfl | exact Bl | (rw [Array.getElem?_toList]; exact cut_reg hcell (by omega))) | refine Bi Aa Ab hS ?_ (hv := by first | exact Bq _ _ (by (try simp only [Ca, Ce, Bz, List.length_append, List.length_set, zs_len, List.length_take, List.length_drop, List.length_cons, List.length_nil]); first | done | rfl | omega) | (exact cut_reg hcell (by omega)) | rfl) | refine Dq Aa (by first | exact ((hS).far hb).1) ?_ (hv := by first | exact Bq _ _ (by (try simp only [Ca, Ce, Bz, List.length_append, List.length_set, zs_len, List.length_take, List.length_drop, List.length_cons, List.length_nil]); first | done | rfl | omega) | (exact cut_reg hcell (by omega)) | rfl) | refine Ag Aa ?_ | refine Af Aa ?_ | refine Bs Aa ?_ | refine Bx Aa ?_ | refine Ao Aa ?_ | refine Bw Aa ?_ | refine Br Aa ?_ | refine Be Aa ?_ | refine Bg Aa ?_ | refine Bv Aa (fun hc => ?_) (fun hc => ?_) | refine Ay Aa ?_ | refine Am Aa ?_ | refine Aw Aa ?_ | refine Ap Aa ?_ | refine Ah Aa ?_ | refine Ax Aa ?_ (hv' := by first | rfl | exact Bl | (rw [Array.getElem?_toList]; exact cut_reg hcell (by omega))) | refine Ar Aa ?_ | refine Aj Aa ?_ | refine Ae Aa ?_ | refine Ai Aa ?_ | refine Bp Aa ?_ | refine Bo Aa ?_ | refine Bu Aa ?_ | refine Bc Aa ?_ | refine As Aa ?_ | refine Ak Aa ?_) <;> refine Ac ?_) | ((first | refine Bh Aa Ab hS ?_ | refine Bt Aa Ab hS ?_ | refine Ba Aa Ab hS ?_ | refine Bd Aa Ab hS ?_); clear hS; intro b w hS; refine Ac ?_) | ((first | refine Av Aa Ab hS ?_ | refine Au Aa Ab hS ?_); clear hS; intro w hS; refine Ac ?_) | (refine Stp.go Aa (by rfl) (by rfl) (r_shr1 (q := (m : Int)) (by rfl) (by first | rfl | (show _ = some (Value.int .u64 _); rw [e0]; rfl)) (by rw [hm1]) (by omega)) ?_; refine Ac ?_) | (refine Cb Aa Ab hS (find1_c _ _ _ hC _) ?_; clear hS; intro w hS; refine Ac ?_)) | ((fail_if_success (with_reducible refine Ad ?_)); first | go_step | go_step3 | rw [Exit.noGoto_normal] | rw [Exit.noGoto_ret] | rw [Exit.noGoto_exit]))
        go_roundw
        case rel => exact ⟨i, m, by omega, by omega, rfl, rfl, h1, fun k hk hk2 => by
          by_cases hkm : k = m
          · subst hkm; omega
          · have := okL_lt2 (i := m) (j := k) hl (by omega) (by omega); omega, hS⟩
        case measure => simp [intOf]; omega
    · obtain rfl : i = j := by omega
      have hix := idx_of hj h1 h2
      have hha := has_of hl hix
      by_cases hin : i < l.length
      · obtain ⟨b, o, cs, t, fr, rfl, hb, hcell⟩ := hv.open_ (by omega)
        have q1 := csz_reg hcell (i := i) (by omega)
        obtain ⟨C, hC⟩ : ∃ C, cmpI (l.getD i (0, 0)).1 who = C := ⟨_, rfl⟩
        have hcc := cmpI_zero (a := (l.getD i (0, 0)).1) (b := who)
        rw [hC] at hcc
        by_cases hz : C = 0
        · have hz2 := hcc.1 hz
          repeat' (first | ((with_reducible refine Ad ?_); first | ((first | refine Bn Aa ?_ | refine Bm Aa ?_ | refine Az Aa ?_ | refine Bf Aa Ab hS ?_ (hv := by first | rfl | exact Bl | (rw [Array.getElem?_toList]; exact cut_reg hcell (by omega))) | refine Dp Aa (by first | exact ((hS).far hb).1) ?_ (hv := by first | rfl | exact Bl | (rw [Array.getElem?_toList]; exact cut_reg hcell (by omega))) | refine Bi Aa Ab hS ?_ (hv := by first | exact Bq _ _ (by (try simp only [Ca, Ce, Bz, List.length_append, List.length_set, zs_len, List.length_take, List.length_drop, List.length_cons, List.length_nil]); first | done | rfl | omega) | (exact cut_reg hcell (by omega)) | rfl) | refine Dq Aa (by first | exact ((hS).far hb).1) ?_ (hv := by first | exact Bq _ _ (by (try simp only [Ca, Ce, Bz, List.length_append, List.length_set, zs_len, List.length_take, List.length_drop, List.length_cons, List.length_nil]); first | done | rfl | omega) | (exact cut_reg hcell (by omega)) | rfl) | refine Ag Aa ?_ | refine Af Aa ?_ | refine Bs Aa ?_ | refine Bx Aa ?_ | refine Ao Aa ?_ | refine Bw Aa ?_ | refine Br Aa ?_ | refine Be Aa ?_ | refine Bg Aa ?_ | refine Bv Aa (fun hc => ?_) (fun hc => ?_) | refine Ay Aa ?_ | refine Am Aa ?_ | refine Aw Aa ?_ | refine Ap Aa ?_ | refine Ah Aa ?_ | refine Ax Aa ?_ (hv' := by first | rfl | exact Bl | (rw [Array.getElem?_toList]; exact cut_reg hcell (by omega))) | refine Ar Aa ?_ | refine Aj Aa ?_ | refine Ae Aa ?_ | refine Ai Aa ?_ | refine Bp Aa ?_ | refine Bo Aa ?_ | refine Bu Aa ?_ | refine Bc Aa ?_ | refine As Aa ?_ | refine Ak Aa ?_) <;> refine Ac ?_) | ((first | refine Bh Aa Ab hS ?_ | refine Bt Aa Ab hS ?_ | refine Ba Aa Ab hS ?_ | refine Bd Aa Ab hS ?_); clear hS; intro b w hS; refine Ac ?_) | ((first | refine Av Aa Ab hS ?_ | refine Au Aa Ab hS ?_); clear hS; intro w hS; refine Ac ?_) | (refine Cb Aa Ab hS (find1_c _ _ _ hC _) ?_; clear hS; intro w hS; refine Ac ?_)) | ((fail_if_success (with_reducible refine Ad ?_)); first | go_step | go_step3 | rw [Exit.noGoto_normal] | rw [Exit.noGoto_ret] | rw [Exit.noGoto_exit]))
          go_ret2
          exact ⟨by rw [hix, hha, hz2]; simp [hin], hS.below⟩
        · have hz2 : ¬ (l.getD i (0, 0)).1 = who := fun h => hz (hcc.2 h)
          repeat' (first | ((with_reducible refine Ad ?_); first | ((first | refine Bn Aa ?_ | refine Bm Aa ?_ | refine Az Aa ?_ | refine Bf Aa Ab hS ?_ (hv := by first | rfl | exact Bl | (rw [Array.getElem?_toList]; exact cut_reg hcell (by omega))) | refine Dp Aa (by first | exact ((hS).far hb).1) ?_ (hv := by first | rfl | exact Bl | (rw [Array.getElem?_toList]; exact cut_reg hcell (by omega))) | refine Bi Aa Ab hS ?_ (hv := by first | exact Bq _ _ (by (try simp only [Ca, Ce, Bz, List.length_append, List.length_set, zs_len, List.length_take, List.length_drop, List.length_cons, List.length_nil]); first | done | rfl | omega) | (exact cut_reg hcell (by omega)) | rfl) | refine Dq Aa (by first | exact ((hS).far hb).1) ?_ (hv := by first | exact Bq _ _ (by (try simp only [Ca, Ce, Bz, List.length_append, List.length_set, zs_len, List.length_take, List.length_drop, List.length_cons, List.length_nil]); first | done | rfl | omega) | (exact cut_reg hcell (by omega)) | rfl) | refine Ag Aa ?_ | refine Af Aa ?_ | refine Bs Aa ?_ | refine Bx Aa ?_ | refine Ao Aa ?_ | refine Bw Aa ?_ | refine Br Aa ?_ | refine Be Aa ?_ | refine Bg Aa ?_ | refine Bv Aa (fun hc => ?_) (fun hc => ?_) | refine Ay Aa ?_ | refine Am Aa ?_ | refine Aw Aa ?_ | refine Ap Aa ?_ | refine Ah Aa ?_ | refine Ax Aa ?_ (hv' := by first | rfl | exact Bl | (rw [Array.getElem?_toList]; exact cut_reg hcell (by omega))) | refine Ar Aa ?_ | refine Aj Aa ?_ | refine Ae Aa ?_ | refine Ai Aa ?_ | refine Bp Aa ?_ | refine Bo Aa ?_ | refine Bu Aa ?_ | refine Bc Aa ?_ | refine As Aa ?_ | refine Ak Aa ?_) <;> refine Ac ?_) | ((first | refine Bh Aa Ab hS ?_ | refine Bt Aa Ab hS ?_ | refine Ba Aa Ab hS ?_ | refine Bd Aa Ab hS ?_); clear hS; intro b w hS; refine Ac ?_) | ((first | refine Av Aa Ab hS ?_ | refine Au Aa Ab hS ?_); clear hS; intro w hS; refine Ac ?_) | (refine Cb Aa Ab hS (find1_c _ _ _ hC _) ?_; clear hS; intro w hS; refine Ac ?_)) | ((fail_if_success (with_reducible refine Ad ?_)); first | go_step | go_step3 | rw [Exit.noGoto_normal] | rw [Exit.noGoto_ret] | rw [Exit.noGoto_exit]))
          go_ret2
          exact ⟨by rw [hix, show hasR l who = false from by rw [hha, decide_eq_false hz2, Bool.and_false]]; rfl, hS.below⟩
      · repeat' (first | ((with_reducible refine Ad ?_); first | ((first | refine Bn Aa ?_ | refine Bm Aa ?_ | refine Az Aa ?_ | refine Bf Aa Ab hS ?_ | refine Bi Aa Ab hS ?_ | refine Ag Aa ?_ | refine Af Aa ?_ | refine Bs Aa ?_ | refine Bx Aa ?_ | refine Ao Aa ?_ | refine Bw Aa ?_ | refine Br Aa ?_ | refine Be Aa ?_ | refine Bg Aa ?_ | refine Bv Aa (fun hc => ?_) (fun hc => ?_) | refine Ay Aa ?_ | refine Am Aa ?_ | refine Aw Aa ?_ | refine Ap Aa ?_ | refine Ah Aa ?_ | refine Ax Aa ?_ | refine Ar Aa ?_ | refine Aj Aa ?_ | refine Ae Aa ?_ | refine Ai Aa ?_ | refine Bp Aa ?_ | refine Bo Aa ?_ | refine Bu Aa ?_ | refine Bc Aa ?_ | refine As Aa ?_ | refine Ak Aa ?_) <;> refine Ac ?_) | ((first | refine Bh Aa Ab hS ?_ | refine Bt Aa Ab hS ?_ | refine Ba Aa Ab hS ?_ | refine Bd Aa Ab hS ?_); clear hS; intro b w hS; refine Ac ?_) | ((first | refine Av Aa Ab hS ?_ | refine Au Aa Ab hS ?_); clear hS; intro w hS; refine Ac ?_)) | ((fail_if_success (with_reducible refine Ad ?_)); first | go_step | go_step3 | rw [Exit.noGoto_normal] | rw [Exit.noGoto_ret] | rw [Exit.noGoto_exit]))
        go_ret2
        exact ⟨by rw [hix, hha]; simp [hin], hS.below⟩
set_option maxRecDepth 100000 in
set_option maxHeartbeats 4000000 in
theorem find_any (l : List Rg) (hl : okL l) (who h t g : Int) (s : Bool) (v : Value) (w0 : World) (hv : RegsAt w0 v l) (hm : l.length ≤ 1000000) :
    Calls Try.prog 40 #[.agg #[v, .int .i64 h, .int .i64 t, .bool s, .int .i64 g], .int .i64 who] w0 fun e w' => e = .returned (.tuple #[.int .i64 (idxR l who : Int), .bool (hasR l who)]) ∧ Below w0.heap.size w0 w' := by
  have hS := St.start w0
  go_enter Try.func40, Try.ntmps40
  repeat' (first | ((with_reducible refine Ad ?_); first | ((first | refine Bn Aa ?_ | refine Bm Aa ?_ | refine Az Aa ?_ | refine Bf Aa Ab hS ?_ | refine Bi Aa Ab hS ?_ | refine Ag Aa ?_ | refine Af Aa ?_ | refine Bs Aa ?_ | refine Bx Aa ?_ | refine Ao Aa ?_ | refine Bw Aa ?_ | refine Br Aa ?_ | refine Be Aa ?_ | refine Bg Aa ?_ | refine Bv Aa (fun hc => ?_) (fun hc => ?_) | refine Ay Aa ?_ | refine Am Aa ?_ | refine Aw Aa ?_ | refine Ap Aa ?_ | refine Ah Aa ?_ | refine Ax Aa ?_ | refine Ar Aa ?_ | refine Aj Aa ?_ | refine Ae Aa ?_ | refine Ai Aa ?_ | refine Bp Aa ?_ | refine Bo Aa ?_ | refine Bu Aa ?_ | refine Bc Aa ?_ | refine As Aa ?_ | refine Ak Aa ?_) <;> refine Ac ?_) | ((first | refine Bh Aa Ab hS ?_ | refine Bt Aa Ab hS ?_ | refine Ba Aa Ab hS ?_ | refine Bd Aa Ab hS ?_); clear hS; intro b w hS; refine Ac ?_) | ((first | refine Av Aa Ab hS ?_ | refine Au Aa Ab hS ?_); clear hS; intro w hS; refine Ac ?_) | (refine Cb Aa Ab hS (bsearch_any l hl who _ _ (hv.below hS.below) hm) ?_; clear hS; intro w hS; refine Ac ?_)) | ((fail_if_success (with_reducible refine Ad ?_)); first | go_step | go_step3 | rw [Exit.noGoto_normal] | rw [Exit.noGoto_ret] | rw [Exit.noGoto_exit]))
  go_ret2
  exact ⟨rfl, hS.below⟩
theorem none_any (w0 : World) : Calls Try.prog 30 #[] w0 fun e w' => e = .returned (.agg #[.slice none 0 0, .int .i64 (-1), .int .i64 0, .bool false, .int .i64 0]) ∧ Below w0.heap.size w0 w' := by
  have hS := St.start w0
  go_enter Try.func30, Try.ntmps30
  repeat' (first | ((with_reducible refine Ad ?_); first | ((first | refine Bn Aa ?_ | refine Bm Aa ?_ | refine Az Aa ?_ | refine Bf Aa Ab hS ?_ | refine Bi Aa Ab hS ?_ | refine Ag Aa ?_ | refine Af Aa ?_ | refine Bs Aa ?_ | refine Bx Aa ?_ | refine Ao Aa ?_ | refine Bw Aa ?_ | refine Br Aa ?_ | refine Be Aa ?_ | refine Bg Aa ?_ | refine Bv Aa (fun hc => ?_) (fun hc => ?_) | refine Ay Aa ?_ | refine Am Aa ?_ | refine Aw Aa ?_ | refine Ap Aa ?_ | refine Ah Aa ?_ | refine Ax Aa ?_ | refine Ar Aa ?_ | refine Aj Aa ?_ | refine Ae Aa ?_ | refine Ai Aa ?_ | refine Bp Aa ?_ | refine Bo Aa ?_ | refine Bu Aa ?_ | refine Bc Aa ?_ | refine As Aa ?_ | refine Ak Aa ?_ | refine Aq Aa ?_ | refine Bj Aa ?_ | refine Bk Aa ?_) <;> refine Ac ?_) | ((first | refine Bh Aa Ab hS ?_ | refine Bt Aa Ab hS ?_ | refine Ba Aa Ab hS ?_ | refine Bd Aa Ab hS ?_); clear hS; intro b w hS; refine Ac ?_) | ((first | refine Av Aa Ab hS ?_ | refine Au Aa Ab hS ?_ | refine Bb Aa Ab hS ?_); clear hS; intro w hS; refine Ac ?_)) | ((fail_if_success (with_reducible refine Ad ?_)); first | go_step | go_step3 | rw [Exit.noGoto_normal] | rw [Exit.noGoto_ret] | rw [Exit.noGoto_exit]))
  exact post_cell (n := 5) Try.results30 (by kernel_rfl) (.inl rfl) _ _ _ _ rfl rfl (hS.blk 0 rfl) (by rfl) (⟨rfl, hS.below⟩)
/-- A slice of registrations that a call has made: none, or a block of its own. -/
def OwnRegs (B : Nat) (w : World) (sv : Value) (l : List Rg) : Prop := (sv = .slice none 0 0 ∧ l = []) ∨
  ∃ g c sp, sv = .slice (some ⟨g, 0, none⟩) l.length c ∧ l.length ≤ c ∧ c ≤ maxLen ∧ sp.length = (c - l.length) * 2 ∧ B ≤ g ∧ blk w g = some (.cells (rgs l ++ sp).toArray 39 (0, 0))
theorem OwnRegs.at {B : Nat} {w : World} {sv : Value} {l : List Rg} (h : OwnRegs B w sv l) : RegsAt w sv l := by
  rcases h with ⟨rfl, rfl⟩ | ⟨g, c, sp, rfl, h1, h2, h3, h4, h5⟩
  · exact regsAt_nil w
  · exact regsAt_blk h5 rfl h1
theorem RegsAt.srcs {w : World} {q : Addr} {n c : Nat} {l : List Rg} (h : RegsAt w (.slice (some q) n c) l) : ∀ j v, (rgs l)[j]? = some v → w.cell? (q.add j) = some v := by
  intro j v hj
  obtain ⟨p', c', h1, h2, h3, h4⟩ := h
  simp only [Value.slice.injEq] at h1
  obtain ⟨b, o, cs, t, fr, e1, e2, e3⟩ := h4 (by rintro rfl; simp [rgs] at hj)
  have e4 := h1.1.trans e1
  simp only [Option.some.injEq] at e4
  rw [e4, addr_add, cell_of_row w b (o + j) cs t fr e2, ← Array.getElem?_toList]
  exact e3 j v hj
theorem rgs_one (l : List Rg) : ∀ v ∈ rgs l, v.oneCell' = true := by
  intro v hv
  unfold rgs at hv
  obtain ⟨x, _, hx⟩ := List.mem_flatMap.1 hv
  simp only [List.mem_cons, List.not_mem_nil, or_false] at hx
  rcases hx with rfl | rfl <;> rfl
set_option maxRecDepth 100000 in
set_option maxHeartbeats 4000000 in
theorem clone_any (l : List Rg) (v : Value) (w0 : World) (hv : RegsAt w0 v l) (hm : l.length ≤ 1000000) :
    Calls Try.prog 50 #[v] w0 fun e w' => ∃ sv, e = .returned sv ∧ OwnRegs w0.heap.size w' sv l ∧ Below w0.heap.size w0 w' := by
  obtain ⟨p, c, rfl, hc, hp0, _⟩ := id hv
  have hS := St.start w0
  go_enter Try.func50, Try.ntmps50
  cases p with
  | none =>
    have hc0 := hp0 rfl
    have hl0 : l = [] := List.eq_nil_of_length_eq_zero (by omega)
    repeat' (first | ((with_reducible refine Ad ?_); first | ((first | refine Bn Aa ?_ | refine Bm Aa ?_ | refine Az Aa ?_ | refine Bf Aa Ab hS ?_ | refine Bi Aa Ab hS ?_ | refine Ag Aa ?_ | refine Af Aa ?_ | refine Bs Aa ?_ | refine Bx Aa ?_ | refine Ao Aa ?_ | refine Bw Aa ?_ | refine Br Aa ?_ | refine Be Aa ?_ | refine Bg Aa ?_ | refine Bv Aa (fun hc => ?_) (fun hc => ?_) | refine Ay Aa ?_ | refine Am Aa ?_ | refine Aw Aa ?_ | refine Ap Aa ?_ | refine Ah Aa ?_ | refine Ax Aa ?_ | refine Ar Aa ?_ | refine Aj Aa ?_ | refine Ae Aa ?_ | refine Ai Aa ?_ | refine Bp Aa ?_ | refine Bo Aa ?_ | refine Bu Aa ?_ | refine Bc Aa ?_ | refine As Aa ?_ | refine Ak Aa ?_) <;> refine Ac ?_) | ((first | refine Bh Aa Ab hS ?_ | refine Bt Aa Ab hS ?_ | refine Ba Aa Ab hS ?_ | refine Bd Aa Ab hS ?_); clear hS; intro b w hS; refine Ac ?_) | ((first | refine Av Aa Ab hS ?_ | refine Au Aa Ab hS ?_); clear hS; intro w hS; refine Ac ?_)) | ((fail_if_success (with_reducible refine Ad ?_)); first | go_step | go_step3 | rw [Exit.noGoto_normal] | rw [Exit.noGoto_ret] | rw [Exit.noGoto_exit]))
    go_ret
    exact ⟨_, rfl, .inl ⟨rfl, hl0⟩, hS.below⟩
  | some q =>
    repeat' (first | ((with_reducible refine Ad ?_); first | ((first | refine Bn Aa ?_ | refine Bm Aa ?_ | refine Az Aa ?_ | refine Bf Aa Ab hS ?_ | refine Bi Aa Ab hS ?_ | refine Ag Aa ?_ | refine Af Aa ?_ | refine Bs Aa ?_ | refine Bx Aa ?_ | refine Ao Aa ?_ | refine Bw Aa ?_ | refine Br Aa ?_ | refine Be Aa ?_ | refine Bg Aa ?_ | refine Bv Aa (fun hc => ?_) (fun hc => ?_) | refine Ay Aa ?_ | refine Am Aa ?_ | refine Aw Aa ?_ | refine Ap Aa ?_ | refine Ah Aa ?_ | refine Ax Aa ?_ | refine Ar Aa ?_ | refine Aj Aa ?_ | refine Ae Aa ?_ | refine Ai Aa ?_ | refine Bp Aa ?_ | refine Bo Aa ?_ | refine Bu Aa ?_ | refine Bc Aa ?_ | refine As Aa ?_ | refine Ak Aa ?_) <;> refine Ac ?_) | ((first | refine Bh Aa Ab hS ?_ | refine Bt Aa Ab hS ?_ | refine Ba Aa Ab hS ?_ | refine Bd Aa Ab hS ?_); clear hS; intro b w hS; refine Ac ?_) | ((first | refine Av Aa Ab hS ?_ | refine Au Aa Ab hS ?_); clear hS; intro w hS; refine Ac ?_)) | ((fail_if_success (with_reducible refine Ad ?_)); first | go_step | go_step3 | rw [Exit.noGoto_normal] | rw [Exit.noGoto_ret] | rw [Exit.noGoto_exit]))
    refine s_append Aa Ab hS (by rfl) (by rfl) (by rfl) (by rfl) (by infer_instance) (by exact at_ 0 rfl) (olds := []) (spare := []) (by rfl) (by rfl) (by omega) (by rfl) (xs := rgs l) ((hv.below hS.below).srcs) (rgs_len l) (rgs_one l) (by unfold maxLen; omega) (by rw [Nat.zero_add]) ?_
    clear hS
    intro by2 cy2 S2 w hq1 hq2 hq3 hS
    refine Ac ?_
    repeat' (first | ((with_reducible refine Ad ?_); first | ((first | refine Bn Aa ?_ | refine Bm Aa ?_ | refine Az Aa ?_ | refine Bf Aa Ab hS ?_ | refine Bi Aa Ab hS ?_ | refine Ag Aa ?_ | refine Af Aa ?_ | refine Bs Aa ?_ | refine Bx Aa ?_ | refine Ao Aa ?_ | refine Bw Aa ?_ | refine Br Aa ?_ | refine Be Aa ?_ | refine Bg Aa ?_ | refine Bv Aa (fun hc => ?_) (fun hc => ?_) | refine Ay Aa ?_ | refine Am Aa ?_ | refine Aw Aa ?_ | refine Ap Aa ?_ | refine Ah Aa ?_ | refine Ax Aa ?_ | refine Ar Aa ?_ | refine Aj Aa ?_ | refine Ae Aa ?_ | refine Ai Aa ?_ | refine Bp Aa ?_ | refine Bo Aa ?_ | refine Bu Aa ?_ | refine Bc Aa ?_ | refine As Aa ?_ | refine Ak Aa ?_) <;> refine Ac ?_) | ((first | refine Bh Aa Ab hS ?_ | refine Bt Aa Ab hS ?_ | refine Ba Aa Ab hS ?_ | refine Bd Aa Ab hS ?_); clear hS; intro b w hS; refine Ac ?_) | ((first | refine Av Aa Ab hS ?_ | refine Au Aa Ab hS ?_); clear hS; intro w hS; refine Ac ?_)) | ((fail_if_success (with_reducible refine Ad ?_)); first | go_step | go_step3 | rw [Exit.noGoto_normal] | rw [Exit.noGoto_ret] | rw [Exit.noGoto_exit]))
    go_ret
    exact ⟨_, rfl, .inr ⟨by2, cy2, S2, rfl, hq1, hq2, hq3, (hS.2.1 _ (List.mem_cons_self ..)).1, hS.blk 0 rfl⟩, hS.below⟩
end Go.Proofs.Ytkfggilildiflac

namespace Go.Proofs.Ytkfggilildiflac
open Go.RowKit
def nthL {α : Type} : List α → Nat → Option α
  | [], _ => none
  | a :: _, 0 => some a
  | _ :: l, n + 1 => nthL l n
theorem nthL_eq {α : Type} : ∀ (l : List α) (n : Nat), nthL l n = l[n]?
  | [], n => by simp [nthL]
  | a :: l, 0 => by simp [nthL]
  | a :: l, n + 1 => by simp [nthL, nthL_eq l n]
/-- Where a number stands. -/
def posL : List Nat → Nat → Nat
  | [], _ => 0
  | y :: l, x => if y = x then 0 else posL l x + 1
def reE (s : List Nat) (e : Edge) : Edge := ⟨posL s e.on, e.ground⟩
def reG (s : List Nat) : Option (Nat × Bool) → Option (Nat × Bool)
  | none => none
  | some (j, b) => some (posL s j, b)
def reO (s : List Nat) (o : Oper) : Oper := ⟨o.dst, o.op, o.type, o.pos, (o.after.toList.map (reE s)).toArray, reG s o.guard⟩
def orD : Option Oper → Oper
  | some o => o
  | none => default
def permL (s : List Nat) (l : List Oper) : List Oper := s.map fun i => reO s (orD (nthL l i))
def permOK (s : List Nat) (l : List Oper) : Bool :=
  (List.range l.length).all (fun i => decide (posL s i < l.length) && nthL s (posL s i) == some i) &&
  (List.range l.length).all (fun k => match nthL s k with | some i => decide (i < l.length) && posL s i == k | none => false) && s.length == l.length &&
  l.all (fun o => o.after.toList.all (fun e => decide (e.on < l.length)) && (match o.guard with | some g => decide (g.1 < l.length) | none => true))
section
variable {P : Program} {md : Region.Mode} {Q : Exit → Act → World → Prop} {s : List Nat} {l : List Oper}
theorem perm_1 (h : permOK s l = true) {i : Nat} (hi : i < l.length) : posL s i < l.length ∧ s[posL s i]? = some i := by
  simp only [permOK, Bool.and_eq_true] at h
  have := List.all_eq_true.1 h.1.1.1 i (List.mem_range.2 hi)
  simp only [Bool.and_eq_true, decide_eq_true_eq, beq_iff_eq, nthL_eq] at this
  exact this
theorem perm_2 (h : permOK s l = true) {k : Nat} (hk : k < l.length) : ∃ i, s[k]? = some i ∧ i < l.length ∧ posL s i = k := by
  simp only [permOK, Bool.and_eq_true] at h
  have := List.all_eq_true.1 h.1.1.2 k (List.mem_range.2 hk)
  rw [nthL_eq] at this
  split at this
  · next i hi =>
    simp only [Bool.and_eq_true, decide_eq_true_eq, beq_iff_eq] at this
    exact ⟨i, hi, this⟩
  · cases this
theorem perm_len (h : permOK s l = true) : (permL s l).length = l.length := by
  simp only [permOK, Bool.and_eq_true, beq_iff_eq] at h
  unfold permL
  rw [List.length_map, h.1.2]
theorem perm_on (h : permOK s l = true) {i : Nat} {o : Oper} (hi : l[i]? = some o) {e : Edge} (he : e ∈ o.after) : e.on < l.length := by
  simp only [permOK, Bool.and_eq_true] at h
  have := List.all_eq_true.1 h.2 o (List.mem_of_getElem? hi)
  simp only [Bool.and_eq_true] at this
  have := List.all_eq_true.1 this.1 e (by simpa using he)
  simpa using this
theorem perm_guard (h : permOK s l = true) {i : Nat} {o : Oper} (hi : l[i]? = some o) {g : Nat × Bool} (hg : o.guard = some g) : g.1 < l.length := by
  simp only [permOK, Bool.and_eq_true] at h
  have := List.all_eq_true.1 h.2 o (List.mem_of_getElem? hi)
  simp only [Bool.and_eq_true, hg] at this
  simpa using this.2
theorem perm_at (h : permOK s l = true) {i : Nat} {o : Oper} (hi : l[i]? = some o) : (permL s l)[posL s i]? = some (reO s o) := by
  have hil := (List.getElem?_eq_some_iff.1 hi).1
  unfold permL
  rw [List.getElem?_map, (perm_1 h hil).2]
  simp only [Option.map_some, nthL_eq, hi, orD]
theorem perm_yielded (h : permOK s l = true) (tmps : Array Value) {j : Nat} (hj : j < l.length) : yielded (permL s l).toArray tmps (posL s j) = yielded l.toArray tmps j := by
  have hg : l[j]? = some l[j] := List.getElem?_eq_getElem hj
  have h1 := perm_at h hg
  unfold yielded
  rw [List.getElem?_toArray, List.getElem?_toArray, h1, hg]
  rfl
theorem perm_wanted (h : permOK s l = true) {i : Nat} {o : Oper} (hi : l[i]? = some o) (tmps : Array Value) : Region.wanted (reO s o) (yielded (permL s l).toArray tmps) = Region.wanted o (yielded l.toArray tmps) := by
  unfold Region.wanted
  cases hg : o.guard with
  | none => simp only [reO, hg, reG]
  | some g =>
    obtain ⟨j, b⟩ := g
    have := perm_yielded h tmps (perm_guard h hi hg)
    simp only [reO, hg, reG] at this ⊢
    rw [this]
theorem perm_wp (o : Oper) (a : Act) (w : World) (K : Act → World → Prop) : Oper.wp P (reO s o) a w K Q ↔ Oper.wp P o a w K Q := Iff.rfl
theorem perm_asks (o : Oper) (a : Act) (w : World) : (reO s o).asks P a w ↔ o.asks P a w := Iff.rfl
theorem perm_ready (h : permOK s l = true) {x y : Array Bool} (hx : x.size = l.length) (hy : y.size = l.length) (hxy : ∀ i, i < l.length → y.getD (posL s i) true = x.getD i true) {i : Nat} (hil : i < l.length) :
    posL s i ∈ Region.ready md (permL s l).toArray y ↔ i ∈ Region.ready md l.toArray x := by
  have hg : l[i]? = some l[i] := List.getElem?_eq_getElem hil
  have hp := perm_at h hg
  rw [mem_ready, mem_ready, hxy i hil]
  refine and_congr Iff.rfl ⟨?_, ?_⟩
  · rintro ⟨o, ho, hall⟩
    rw [List.getElem?_toArray, hp] at ho
    obtain rfl := Option.some.inj ho
    refine ⟨l[i], by rw [List.getElem?_toArray]; exact hg, fun e he hb => ?_⟩
    have hon := perm_on h hg he
    have h1 := hall (reE s e) (by simp only [reO, List.mem_toArray]; exact List.mem_map.2 ⟨e, by simpa using he, rfl⟩) hb
    have hp1 := (perm_1 h hon).1
    have h1 : y.getD (posL s e.on) false = true := h1
    rw [getD_flip (by omega) false true] at h1 ⊢
    rw [← hxy _ hon]; exact h1
  · rintro ⟨o, ho, hall⟩
    rw [List.getElem?_toArray, hg] at ho
    obtain rfl := Option.some.inj ho
    refine ⟨reO s l[i], by rw [List.getElem?_toArray]; exact hp, fun e he hb => ?_⟩
    simp only [reO, List.mem_toArray] at he
    obtain ⟨e0, he0, rfl⟩ := List.mem_map.1 he
    have he1 : e0 ∈ l[i].after := by simpa using he0
    have hon := perm_on h hg he1
    have h1 := hall e0 he1 hb
    have hp1 := (perm_1 h hon).1
    show y.getD (posL s e0.on) false = true
    rw [getD_flip (by omega) false true] at h1 ⊢
    rw [hxy _ hon]; exact h1
theorem any_perm (h : permOK s l = true) : ∀ (fuel : Nat) (x y : Array Bool) (a : Act) (w : World), x.size = l.length → y.size = l.length → (∀ i, i < l.length → y.getD (posL s i) true = x.getD i true) →
    wpAny P md (permL s l).toArray Q fuel y a w → wpAny P md l.toArray Q fuel x a w := by
  intro fuel
  have hnil : ∀ (x y : Array Bool), x.size = l.length → y.size = l.length → (∀ i, i < l.length → y.getD (posL s i) true = x.getD i true) → (Region.ready md (permL s l).toArray y = [] ↔ Region.ready md l.toArray x = []) := by
    intro x y hx hy hxy
    constructor
    · intro h0
      refine List.eq_nil_iff_forall_not_mem.2 fun i hi => ?_
      obtain ⟨_, o, ho, _⟩ := mem_ready.1 hi
      have hil : i < l.length := by simpa using (Array.getElem?_eq_some_iff.1 ho).1
      have := (perm_ready (md := md) h hx hy hxy hil).2 hi
      rw [h0] at this; cases this
    · intro h0
      refine List.eq_nil_iff_forall_not_mem.2 fun k hk => ?_
      obtain ⟨_, o, ho, _⟩ := mem_ready.1 hk
      have hkl : k < l.length := by have := (Array.getElem?_eq_some_iff.1 ho).1; rw [List.size_toArray, perm_len h] at this; exact this
      obtain ⟨i, hi, hil, rfl⟩ := perm_2 h hkl
      have := (perm_ready (md := md) h hx hy hxy hil).1 hk
      rw [h0] at this; cases this
  induction fuel with
  | zero =>
    intro x y a w hx hy hxy hA
    exact ⟨(hnil x y hx hy hxy).1 hA.1, hA.2⟩
  | succ fuel ih =>
    intro x y a w hx hy hxy hA
    refine ⟨fun h0 => hA.1 ((hnil x y hx hy hxy).2 h0), fun i hi => ?_⟩
    obtain ⟨_, o, ho, _⟩ := mem_ready.1 hi
    have hil : i < l.length := by simpa using (Array.getElem?_eq_some_iff.1 ho).1
    have ho2 : l[i]? = some o := by simpa using ho
    have h1 := hA.2 (posL s i) ((perm_ready (md := md) h hx hy hxy hil).2 hi)
    have hp := perm_at h ho2
    have hK : ∀ a' w', wpAny P md (permL s l).toArray Q fuel (y.setIfInBounds (posL s i) true) a' w' → wpAny P md l.toArray Q fuel (x.setIfInBounds i true) a' w' := fun a' w' hh => by
      refine ih _ _ a' w' (by simpa using hx) (by simpa using hy) (fun j hj => ?_) hh
      have hj1 := perm_1 h hj
      have hi1 := perm_1 h hil
      by_cases hji : j = i
      · subst hji
        simp [Array.getD, hx, hy, hj, hj1.1]
      · have hne : posL s i ≠ posL s j := fun e => hji (by
          have := hj1.2
          rw [← e, hi1.2] at this
          exact (Option.some.inj this).symm)
        rw [getD_set_ne true hne, getD_set_ne true (Ne.symm hji)]
        exact hxy j hj
    unfold wpOp at h1 ⊢
    rw [List.getElem?_toArray, hp] at h1
    rw [List.getElem?_toArray, ho2]
    simp only at h1 ⊢
    rw [perm_wanted h ho2] at h1
    split
    · next hw =>
      rw [if_pos hw] at h1
      exact h1.imp (fun h2 => Oper.wp_mono hK ((perm_wp o a w _).1 h2)) id
    · next hw =>
      rw [if_neg hw] at h1
      exact hK _ _ h1
theorem any_mono {n : Nat} {a : Act} {w : World} (hB : frontOK md (l.take n) (l.drop n) = true)
    (h : wpM P md l.toArray w (fun a' F => ∀ b w', Cls w w' → (∀ x ∈ F, w.heap.size ≤ b x.1 ∧ blk w' (b x.1) = some (.cells x.2.1 x.2.2 (0, 0))) → (∀ x ∈ F, ∀ y ∈ F, x.1 ≠ y.1 → b x.1 ≠ b y.1) → wpList P l.toArray Q (l.drop n) (a' b) w') (l.take n) 0 (fun _ => a) []) :
    wpAny P md l.toArray Q l.length (Array.replicate l.length false) a { w with drawn := w.drawn + 1 } := by
  have hh : l.take n ++ l.drop n = l := List.take_append_drop n l
  generalize l.take n = A at *
  generalize l.drop n = T at *
  subst hh
  obtain ⟨L, hL, hstep, hQ⟩ := wpM_out A 0 _ [] h
  have hc : Cls w { w with drawn := w.drawn + 1 } := ⟨rfl, rfl, rfl, Nat.le_refl _, fun _ _ => rfl⟩
  refine any_front hB hL hstep (fun b w' hN => hQ b w' hN.1 (fun x hx => ?_) (fun x hx y hy hne => ?_)) _ _ (fun _ => 0) a _ (by simp) (fun j o _ hl => by simp only [Array.getD] at hl; split at hl <;> simp at hl) (fun j _ hj => by simp only [List.length_append] at hj; simp [Array.getD]; omega) ?_ ?_ ?_
  · rcases mem_factsT _ _ _ hx with h1 | ⟨k, o, mk, hk, he⟩
    · cases h1
    · have : x.1 = k := by omega
      rw [this]
      exact hN.2.1 k o mk _ _ hk rfl
  · rcases mem_factsT _ _ _ hx with h1 | ⟨k, o, mk, hk, he⟩
    · cases h1
    rcases mem_factsT _ _ _ hy with h1 | ⟨k', o', mk', hk', he'⟩
    · cases h1
    have e1 : x.1 = k := by omega
    have e2 : y.1 = k' := by omega
    rw [e1, e2] at hne ⊢
    exact hN.2.2 k k' _ _ _ _ _ _ _ _ hk hk' rfl rfl hne
  · unfold left
    exact Nat.le_trans List.countP_le_length (by simp)
  · refine (Sees.start L a (fun _ => 0)).congr (fun j _ => ?_) (fun _ _ _ => rfl)
    simp only [Array.getD]
    split <;> simp
  · refine ⟨hc, fun j o mk cs t hj hl => ?_, fun i j x y mx cx tx my cy ty hi hj h1 _ => ?_⟩
    · simp only [Array.getD] at hl
      split at hl <;> simp at hl
    · simp only [Array.getD] at h1
      split at h1 <;> simp at h1
/-- **The region, one walk in an order of one's own** (s: for each place the number of the operation that stands there): the first n in front, the others behind them. -/
theorem region_perm_lit {id : Nat} {a : Act} {w : World} (s : List Nat) (n : Nat) {l2 : List Oper} (hm : P.follows .mixedOrders = true) (hs : permOK s l = true) (hl : permL s l = l2) (hB : frontOK .any (l2.take n) (l2.drop n) = true)
    (h : wpM P .any l2.toArray w (fun a' F => ∀ b w', Cls w w' → (∀ x ∈ F, w.heap.size ≤ b x.1 ∧ blk w' (b x.1) = some (.cells x.2.1 x.2.2 (0, 0))) → (∀ x ∈ F, ∀ y ∈ F, x.1 ≠ y.1 → b x.1 ≠ b y.1) → wpList P l2.toArray Q (l2.drop n) (a' b) w') (l2.take n) 0 (fun _ => a) []) :
    (Code.region id l.toArray true).wp P Q a w := by
  subst hl
  have h1 := any_mono hB h
  rw [perm_len hs] at h1
  refine wp_region_any hm ?_
  refine any_perm hs _ _ _ a _ (by simp) (by simp) (fun i hi => ?_) h1
  have := (perm_1 hs hi).1
  simp [Array.getD, hi, this]
end
end Go.Proofs.Ytkfggilildiflac

namespace Go.Proofs.Ytkfggilildiflac
open Go.ChangeShapes Go.WideShapes Go.ChangeAt Go.RowKit
attribute [local irreducible] wpList wpListIn Oper.quietAt wpM
/-- A function value on registrations that reads an operation in a block. -/
def PredO (f ob : Nat) (oc : Array Value) (t : TypeId) (p : Rg → Bool) : Prop := ∀ (x : Rg) (w : World), blk w ob = some (.cells oc t (0, 0)) →
  Calls Try.prog f #[.agg #[.int .i64 x.1, .int .i64 x.2], .pointer (some ⟨ob, 0, none⟩)] w fun e w2 => e = .returned (.bool (p x)) ∧ Below w.heap.size w w2
theorem PredO.c {f ob : Nat} {oc : Array Value} {t : TypeId} {p : Rg → Bool} (h : PredO f ob oc t p) {B : Bool} {x y : Int} (hB : p (x, y) = B) (w : World) (hb : blk w ob = some (.cells oc t (0, 0))) :
    Calls Try.prog f #[.agg #[.int .i64 x, .int .i64 y], .pointer (some ⟨ob, 0, none⟩)] w fun e w2 => e = .returned (.bool B) ∧ Below w.heap.size w w2 := by
  subst hB; exact h (x, y) w hb
theorem mine_pred (op who key new typ : Int) (st : Bool) (ob : Nat) (t : TypeId) : PredO 52 ob #[.int .i64 op, .int .i64 who, .int .i64 key, .int .i64 new, .int .i64 typ, .bool st] t (fun g => g.1 == who) := by
  intro x w hb
  have hS := St.start w
  go_enter Try.func52, Try.ntmps52
  by_cases h : x.1 = who
  · repeat' (first | ((with_reducible refine Ad ?_); first | ((first | refine Bn Aa ?_ | refine Bm Aa ?_ | refine Az Aa ?_ | refine Bf Aa Ab hS ?_ | refine Dp Aa (by first | exact ((hS).far hb).1) ?_ | refine Bi Aa Ab hS ?_ | refine Dq Aa (by first | exact ((hS).far hb).1) ?_ | refine Ag Aa ?_ | refine Af Aa ?_ | refine Bs Aa ?_ | refine Bx Aa ?_ | refine Ao Aa ?_ | refine Bw Aa ?_ | refine Br Aa ?_ | refine Be Aa ?_ | refine Bg Aa ?_ | refine Bv Aa (fun hc => ?_) (fun hc => ?_) | refine Ay Aa ?_ | refine Am Aa ?_ | refine Aw Aa ?_ | refine Ap Aa ?_ | refine Ah Aa ?_ | refine Ax Aa ?_ | refine Ar Aa ?_ | refine Aj Aa ?_ | refine Ae Aa ?_ | refine Ai Aa ?_ | refine Bp Aa ?_ | refine Bo Aa ?_ | refine Bu Aa ?_ | refine Bc Aa ?_ | refine As Aa ?_ | refine Ak Aa ?_) <;> refine Ac ?_) | ((first | refine Bh Aa Ab hS ?_ | refine Bt Aa Ab hS ?_ | refine Ba Aa Ab hS ?_ | refine Bd Aa Ab hS ?_); clear hS; intro b w hS; refine Ac ?_) | ((first | refine Av Aa Ab hS ?_ | refine Au Aa Ab hS ?_); clear hS; intro w hS; refine Ac ?_)) | ((fail_if_success (with_reducible refine Ad ?_)); first | go_step | go_step3 | rw [Exit.noGoto_normal] | rw [Exit.noGoto_ret] | rw [Exit.noGoto_exit]))
    go_ret
    exact ⟨by simp [h], hS.below⟩
  · repeat' (first | ((with_reducible refine Ad ?_); first | ((first | refine Bn Aa ?_ | refine Bm Aa ?_ | refine Az Aa ?_ | refine Bf Aa Ab hS ?_ | refine Dp Aa (by first | exact ((hS).far hb).1) ?_ | refine Bi Aa Ab hS ?_ | refine Dq Aa (by first | exact ((hS).far hb).1) ?_ | refine Ag Aa ?_ | refine Af Aa ?_ | refine Bs Aa ?_ | refine Bx Aa ?_ | refine Ao Aa ?_ | refine Bw Aa ?_ | refine Br Aa ?_ | refine Be Aa ?_ | refine Bg Aa ?_ | refine Bv Aa (fun hc => ?_) (fun hc => ?_) | refine Ay Aa ?_ | refine Am Aa ?_ | refine Aw Aa ?_ | refine Ap Aa ?_ | refine Ah Aa ?_ | refine Ax Aa ?_ | refine Ar Aa ?_ | refine Aj Aa ?_ | refine Ae Aa ?_ | refine Ai Aa ?_ | refine Bp Aa ?_ | refine Bo Aa ?_ | refine Bu Aa ?_ | refine Bc Aa ?_ | refine As Aa ?_ | refine Ak Aa ?_) <;> refine Ac ?_) | ((first | refine Bh Aa Ab hS ?_ | refine Bt Aa Ab hS ?_ | refine Ba Aa Ab hS ?_ | refine Bd Aa Ab hS ?_); clear hS; intro b w hS; refine Ac ?_) | ((first | refine Av Aa Ab hS ?_ | refine Au Aa Ab hS ?_); clear hS; intro w hS; refine Ac ?_)) | ((fail_if_success (with_reducible refine Ad ?_)); first | go_step | go_step3 | rw [Exit.noGoto_normal] | rw [Exit.noGoto_ret] | rw [Exit.noGoto_exit]))
    go_ret
    exact ⟨by simp [h], hS.below⟩
theorem other_pred (op who key new typ : Int) (st : Bool) (ob : Nat) (t : TypeId) : PredO 54 ob #[.int .i64 op, .int .i64 who, .int .i64 key, .int .i64 new, .int .i64 typ, .bool st] t (otherR ⟨op, who, key, new, typ, st⟩) := by
  intro x w hb
  have hS := St.start w
  go_enter Try.func54, Try.ntmps54
  by_cases h : x.1 = who
  · repeat' (first | ((with_reducible refine Ad ?_); first | ((first | refine Bn Aa ?_ | refine Bm Aa ?_ | refine Az Aa ?_ | refine Bf Aa Ab hS ?_ | refine Dp Aa (by first | exact ((hS).far hb).1) ?_ | refine Bi Aa Ab hS ?_ | refine Dq Aa (by first | exact ((hS).far hb).1) ?_ | refine Ag Aa ?_ | refine Af Aa ?_ | refine Bs Aa ?_ | refine Bx Aa ?_ | refine Ao Aa ?_ | refine Bw Aa ?_ | refine Br Aa ?_ | refine Be Aa ?_ | refine Bg Aa ?_ | refine Bv Aa (fun hc => ?_) (fun hc => ?_) | refine Ay Aa ?_ | refine Am Aa ?_ | refine Aw Aa ?_ | refine Ap Aa ?_ | refine Ah Aa ?_ | refine Ax Aa ?_ | refine Ar Aa ?_ | refine Aj Aa ?_ | refine Ae Aa ?_ | refine Ai Aa ?_ | refine Bp Aa ?_ | refine Bo Aa ?_ | refine Bu Aa ?_ | refine Bc Aa ?_ | refine As Aa ?_ | refine Ak Aa ?_) <;> refine Ac ?_) | ((first | refine Bh Aa Ab hS ?_ | refine Bt Aa Ab hS ?_ | refine Ba Aa Ab hS ?_ | refine Bd Aa Ab hS ?_); clear hS; intro b w hS; refine Ac ?_) | ((first | refine Av Aa Ab hS ?_ | refine Au Aa Ab hS ?_); clear hS; intro w hS; refine Ac ?_)) | ((fail_if_success (with_reducible refine Ad ?_)); first | go_step | go_step3 | rw [Exit.noGoto_normal] | rw [Exit.noGoto_ret] | rw [Exit.noGoto_exit]))
    go_ret
    exact ⟨by simp [otherR, h], hS.below⟩
  · by_cases h2 : x.2 = new
    · repeat' (first | ((with_reducible refine Ad ?_); first | ((first | refine Bn Aa ?_ | refine Bm Aa ?_ | refine Az Aa ?_ | refine Bf Aa Ab hS ?_ | refine Dp Aa (by first | exact ((hS).far hb).1) ?_ | refine Bi Aa Ab hS ?_ | refine Dq Aa (by first | exact ((hS).far hb).1) ?_ | refine Ag Aa ?_ | refine Af Aa ?_ | refine Bs Aa ?_ | refine Bx Aa ?_ | refine Ao Aa ?_ | refine Bw Aa ?_ | refine Br Aa ?_ | refine Be Aa ?_ | refine Bg Aa ?_ | refine Bv Aa (fun hc => ?_) (fun hc => ?_) | refine Ay Aa ?_ | refine Am Aa ?_ | refine Aw Aa ?_ | refine Ap Aa ?_ | refine Ah Aa ?_ | refine Ax Aa ?_ | refine Ar Aa ?_ | refine Aj Aa ?_ | refine Ae Aa ?_ | refine Ai Aa ?_ | refine Bp Aa ?_ | refine Bo Aa ?_ | refine Bu Aa ?_ | refine Bc Aa ?_ | refine As Aa ?_ | refine Ak Aa ?_) <;> refine Ac ?_) | ((first | refine Bh Aa Ab hS ?_ | refine Bt Aa Ab hS ?_ | refine Ba Aa Ab hS ?_ | refine Bd Aa Ab hS ?_); clear hS; intro b w hS; refine Ac ?_) | ((first | refine Av Aa Ab hS ?_ | refine Au Aa Ab hS ?_); clear hS; intro w hS; refine Ac ?_)) | ((fail_if_success (with_reducible refine Ad ?_)); first | go_step | go_step3 | rw [Exit.noGoto_normal] | rw [Exit.noGoto_ret] | rw [Exit.noGoto_exit]))
      go_ret
      exact ⟨by simp [otherR, h, h2], hS.below⟩
    · repeat' (first | ((with_reducible refine Ad ?_); first | ((first | refine Bn Aa ?_ | refine Bm Aa ?_ | refine Az Aa ?_ | refine Bf Aa Ab hS ?_ | refine Dp Aa (by first | exact ((hS).far hb).1) ?_ | refine Bi Aa Ab hS ?_ | refine Dq Aa (by first | exact ((hS).far hb).1) ?_ | refine Ag Aa ?_ | refine Af Aa ?_ | refine Bs Aa ?_ | refine Bx Aa ?_ | refine Ao Aa ?_ | refine Bw Aa ?_ | refine Br Aa ?_ | refine Be Aa ?_ | refine Bg Aa ?_ | refine Bv Aa (fun hc => ?_) (fun hc => ?_) | refine Ay Aa ?_ | refine Am Aa ?_ | refine Aw Aa ?_ | refine Ap Aa ?_ | refine Ah Aa ?_ | refine Ax Aa ?_ | refine Ar Aa ?_ | refine Aj Aa ?_ | refine Ae Aa ?_ | refine Ai Aa ?_ | refine Bp Aa ?_ | refine Bo Aa ?_ | refine Bu Aa ?_ | refine Bc Aa ?_ | refine As Aa ?_ | refine Ak Aa ?_) <;> refine Ac ?_) | ((first | refine Bh Aa Ab hS ?_ | refine Bt Aa Ab hS ?_ | refine Ba Aa Ab hS ?_ | refine Bd Aa Ab hS ?_); clear hS; intro b w hS; refine Ac ?_) | ((first | refine Av Aa Ab hS ?_ | refine Au Aa Ab hS ?_); clear hS; intro w hS; refine Ac ?_)) | ((fail_if_success (with_reducible refine Ad ?_)); first | go_step | go_step3 | rw [Exit.noGoto_normal] | rw [Exit.noGoto_ret] | rw [Exit.noGoto_exit]))
      go_ret
      exact ⟨by simp [otherR, h, h2], hS.below⟩
theorem findIdx_of {l : List Rg} {p : Rg → Bool} {k : Nat} (hk : k ≤ l.length) (h1 : ∀ j, j < k → p (l.getD j (0, 0)) = false) (h2 : k < l.length → p (l.getD k (0, 0)) = true) : l.findIdx p = k := by
  induction l generalizing k with
  | nil => simp at hk; subst hk; rfl
  | cons g l ih =>
    rw [List.findIdx_cons]
    cases k with
    | zero =>
      have := h2 (by simp)
      simp only [List.getD_cons_zero] at this
      rw [this]; rfl
    | succ k =>
      have := h1 0 (by omega)
      simp only [List.getD_cons_zero] at this
      rw [this]
      show l.findIdx p + 1 = k + 1
      rw [ih (k := k) (by simpa using hk) (fun j hj => by simpa using h1 (j + 1) (by omega)) (fun hk2 => by simpa using h2 (by simp; omega))]
def idxI (l : List Rg) (p : Rg → Bool) : Int := if l.findIdx p < l.length then (l.findIdx p : Int) else -1
set_option maxRecDepth 100000 in
set_option maxHeartbeats 4000000 in
theorem indexFunc_any (l : List Rg) (f ob : Nat) [GoF Try.prog f] (oc : Array Value) (t : TypeId) (p : Rg → Bool) (HP : PredO f ob oc t p) (v : Value) (w0 : World) (hv : RegsAt w0 v l) (hob : blk w0 ob = some (.cells oc t (0, 0))) (hm : l.length ≤ 1000000) :
    Calls Try.prog 66 #[v, .func (.func f) #[] #[.pointer (some ⟨ob, 0, none⟩)]] w0 fun e w' => e = .returned (.int .i64 (idxI l p)) ∧ Below w0.heap.size w0 w' := by
  obtain ⟨pp, c, rfl, hc⟩ := hv.slice
  have hS := St.start w0
  go_enter Try.func66, Try.ntmps66
  repeat' (first | ((with_reducible refine Ad ?_); first | ((first | refine Bn Aa ?_ | refine Bm Aa ?_ | refine Az Aa ?_ | refine Bf Aa Ab hS ?_ | refine Bi Aa Ab hS ?_ | refine Ag Aa ?_ | refine Af Aa ?_ | refine Bs Aa ?_ | refine Bx Aa ?_ | refine Ao Aa ?_ | refine Bw Aa ?_ | refine Br Aa ?_ | refine Be Aa ?_ | refine Bg Aa ?_ | refine Bv Aa (fun hc => ?_) (fun hc => ?_) | refine Ay Aa ?_ | refine Am Aa ?_ | refine Aw Aa ?_ | refine Ap Aa ?_ | refine Ah Aa ?_ | refine Ax Aa ?_ | refine Ar Aa ?_ | refine Aj Aa ?_ | refine Ae Aa ?_ | refine Ai Aa ?_ | refine Bp Aa ?_ | refine Bo Aa ?_ | refine Bu Aa ?_ | refine Bc Aa ?_ | refine As Aa ?_ | refine Ak Aa ?_) <;> refine Ac ?_) | ((first | refine Bh Aa Ab hS ?_ | refine Bt Aa Ab hS ?_ | refine Ba Aa Ab hS ?_ | refine Bd Aa Ab hS ?_); clear hS; intro b w hS; refine Ac ?_) | ((first | refine Av Aa Ab hS ?_ | refine Au Aa Ab hS ?_); clear hS; intro w hS; refine Ac ?_)) | ((fail_if_success (with_reducible refine Ad ?_)); first | go_step | go_step3 | rw [Exit.noGoto_normal] | rw [Exit.noGoto_ret] | rw [Exit.noGoto_exit]))
  go_loopw [8] (fun u8 wr => ∃ k : Nat, k ≤ l.length ∧ u8 = .int .i64 (k : Int) ∧ (∀ j, j < k → p (l.getD j (0, 0)) = false) ∧ St w0 wr []) (fun u8 _ => l.length - (intOf u8).toNat)
  case atStart => exact ⟨0, by omega, rfl, fun j hj => by omega, hS⟩
  case round =>
    obtain ⟨k, hk, rfl, h1, hS⟩ := hrel
    by_cases hlt : k < l.length
    · obtain ⟨b, o, cs, ty, fr, rfl, hb, hcell⟩ := hv.open_ (by omega)
      have q1 := csz_reg hcell hlt
      cases hB : p ((l.getD k (0, 0)).1, (l.getD k (0, 0)).2) with
      | true =>
        repeat' (first | ((with_reducible refine Ad ?_); first | ((first | refine Bn Aa ?_ | refine Bm Aa ?_ | refine Az Aa ?_ | refine Bf Aa Ab hS ?_ (hv := by first | rfl | exact Bl | (rw [Array.getElem?_toList]; exact cut_reg hcell (by omega))) | refine Dp Aa (by first | exact ((hS).far hb).1) ?_ (hv := by first | rfl | exact Bl | (rw [Array.getElem?_toList]; exact cut_reg hcell (by omega))) | refine Bi Aa Ab hS ?_ (hv := by first | exact Bq _ _ (by (try simp only [Ca, Ce, Bz, List.length_append, List.length_set, zs_len, List.length_take, List.length_drop, List.length_cons, List.length_nil]); first | done | rfl | omega) | (exact cut_reg hcell (by omega)) | rfl) | refine Dq Aa (by first | exact ((hS).far hb).1) ?_ (hv := by first | exact Bq _ _ (by (try simp only [Ca, Ce, Bz, List.length_append, List.length_set, zs_len, List.length_take, List.length_drop, List.length_cons, List.length_nil]); first | done | rfl | omega) | (exact cut_reg hcell (by omega)) | rfl) | refine Ag Aa ?_ | refine Af Aa ?_ | refine Bs Aa ?_ | refine Bx Aa ?_ | refine Ao Aa ?_ | refine Bw Aa ?_ | refine Br Aa ?_ | refine Be Aa ?_ | refine Bg Aa ?_ | refine Bv Aa (fun hc => ?_) (fun hc => ?_) | refine Ay Aa ?_ | refine Am Aa ?_ | refine Aw Aa ?_ | refine Ap Aa ?_ | refine Ah Aa ?_ | refine Ax Aa ?_ (hv' := by first | rfl | exact Bl | (rw [Array.getElem?_toList]; exact cut_reg hcell (by omega))) | refine Ar Aa ?_ | refine Aj Aa ?_ | refine Ae Aa ?_ | refine Ai Aa ?_ | refine Bp Aa ?_ | refine Bo Aa ?_ | refine Bu Aa ?_ | refine Bc Aa ?_ | refine As Aa ?_ | refine Ak Aa ?_) <;> refine Ac ?_) | ((first | refine Bh Aa Ab hS ?_ | refine Bt Aa Ab hS ?_ | refine Ba Aa Ab hS ?_ | refine Bd Aa Ab hS ?_); clear hS; intro b w hS; refine Ac ?_) | ((first | refine Av Aa Ab hS ?_ | refine Au Aa Ab hS ?_); clear hS; intro w hS; refine Ac ?_) | (refine Cb Aa Ab hS (HP.c hB _ ((hS.below.block _ (blk_lt hob)).trans hob)) ?_; clear hS; intro w hS; refine Ac ?_)) | ((fail_if_success (with_reducible refine Ad ?_)); first | go_step | go_step3 | rw [Exit.noGoto_normal] | rw [Exit.noGoto_ret] | rw [Exit.noGoto_exit]))
        go_ret
        exact ⟨by unfold idxI; rw [findIdx_of hk h1 (fun _ => hB), if_pos hlt]; rfl, hS.below⟩
      | false =>
        repeat' (first | ((with_reducible refine Ad ?_); first | ((first | refine Bn Aa ?_ | refine Bm Aa ?_ | refine Az Aa ?_ | refine Bf Aa Ab hS ?_ (hv := by first | rfl | exact Bl | (rw [Array.getElem?_toList]; exact cut_reg hcell (by omega))) | refine Dp Aa (by first | exact ((hS).far hb).1) ?_ (hv := by first | rfl | exact Bl | (rw [Array.getElem?_toList]; exact cut_reg hcell (by omega))) | refine Bi Aa Ab hS ?_ (hv := by first | exact Bq _ _ (by (try simp only [Ca, Ce, Bz, List.length_append, List.length_set, zs_len, List.length_take, List.length_drop, List.length_cons, List.length_nil]); first | done | rfl | omega) | (exact cut_reg hcell (by omega)) | rfl) | refine Dq Aa (by first | exact ((hS).far hb).1) ?_ (hv := by first | exact Bq _ _ (by (try simp only [Ca, Ce, Bz, List.length_append, List.length_set, zs_len, List.length_take, List.length_drop, List.length_cons, List.length_nil]); first | done | rfl | omega) | (exact cut_reg hcell (by omega)) | rfl) | refine Ag Aa ?_ | refine Af Aa ?_ | refine Bs Aa ?_ | refine Bx Aa ?_ | refine Ao Aa ?_ | refine Bw Aa ?_ | refine Br Aa ?_ | refine Be Aa ?_ | refine Bg Aa ?_ | refine Bv Aa (fun hc => ?_) (fun hc => ?_) | refine Ay Aa ?_ | refine Am Aa ?_ | refine Aw Aa ?_ | refine Ap Aa ?_ | refine Ah Aa ?_ | refine Ax Aa ?_ (hv' := by first | rfl | exact Bl | (rw [Array.getElem?_toList]; exact cut_reg hcell (by omega))) | refine Ar Aa ?_ | refine Aj Aa ?_ | refine Ae Aa ?_ | refine Ai Aa ?_ | refine Bp Aa ?_ | refine Bo Aa ?_ | refine Bu Aa ?_ | refine Bc Aa ?_ | refine As Aa ?_ | refine Ak Aa ?_) <;> refine Ac ?_) | ((first | refine Bh Aa Ab hS ?_ | refine Bt Aa Ab hS ?_ | refine Ba Aa Ab hS ?_ | refine Bd Aa Ab hS ?_); clear hS; intro b w hS; refine Ac ?_) | ((first | refine Av Aa Ab hS ?_ | refine Au Aa Ab hS ?_); clear hS; intro w hS; refine Ac ?_) | (refine Cb Aa Ab hS (HP.c hB _ ((hS.below.block _ (blk_lt hob)).trans hob)) ?_; clear hS; intro w hS; refine Ac ?_)) | ((fail_if_success (with_reducible refine Ad ?_)); first | go_step | go_step3 | rw [Exit.noGoto_normal] | rw [Exit.noGoto_ret] | rw [Exit.noGoto_exit]))
        go_roundw
        case rel => exact ⟨k + 1, by omega, by push_cast; rfl, fun j hj => by
          by_cases hjk : j = k
          · subst hjk; exact hB
          · exact h1 j (by omega), hS⟩
        case measure => simp [intOf]; omega
    · repeat' (first | ((with_reducible refine Ad ?_); first | ((first | refine Bn Aa ?_ | refine Bm Aa ?_ | refine Az Aa ?_ | refine Bf Aa Ab hS ?_ | refine Bi Aa Ab hS ?_ | refine Ag Aa ?_ | refine Af Aa ?_ | refine Bs Aa ?_ | refine Bx Aa ?_ | refine Ao Aa ?_ | refine Bw Aa ?_ | refine Br Aa ?_ | refine Be Aa ?_ | refine Bg Aa ?_ | refine Bv Aa (fun hc => ?_) (fun hc => ?_) | refine Ay Aa ?_ | refine Am Aa ?_ | refine Aw Aa ?_ | refine Ap Aa ?_ | refine Ah Aa ?_ | refine Ax Aa ?_ | refine Ar Aa ?_ | refine Aj Aa ?_ | refine Ae Aa ?_ | refine Ai Aa ?_ | refine Bp Aa ?_ | refine Bo Aa ?_ | refine Bu Aa ?_ | refine Bc Aa ?_ | refine As Aa ?_ | refine Ak Aa ?_) <;> refine Ac ?_) | ((first | refine Bh Aa Ab hS ?_ | refine Bt Aa Ab hS ?_ | refine Ba Aa Ab hS ?_ | refine Bd Aa Ab hS ?_); clear hS; intro b w hS; refine Ac ?_) | ((first | refine Av Aa Ab hS ?_ | refine Au Aa Ab hS ?_); clear hS; intro w hS; refine Ac ?_)) | ((fail_if_success (with_reducible refine Ad ?_)); first | go_step | go_step3 | rw [Exit.noGoto_normal] | rw [Exit.noGoto_ret] | rw [Exit.noGoto_exit]))
      go_ret
      exact ⟨by unfold idxI; rw [findIdx_of hk h1 (fun h => absurd h hlt), if_neg (by omega)]; rfl, hS.below⟩
set_option maxRecDepth 100000 in
theorem contains_any (l : List Rg) (f ob : Nat) [GoF Try.prog f] (oc : Array Value) (t : TypeId) (p : Rg → Bool) (HP : PredO f ob oc t p) (v : Value) (w0 : World) (hv : RegsAt w0 v l) (hob : blk w0 ob = some (.cells oc t (0, 0))) (hm : l.length ≤ 1000000) :
    Calls Try.prog 55 #[v, .func (.func f) #[] #[.pointer (some ⟨ob, 0, none⟩)]] w0 fun e w' => e = .returned (.bool (l.any p)) ∧ Below w0.heap.size w0 w' := by
  have hS := St.start w0
  go_enter Try.func55, Try.ntmps55
  have hA : l.any p = true ↔ l.findIdx p < l.length := by rw [List.findIdx_lt_length, List.any_eq_true]
  by_cases h : l.findIdx p < l.length
  · have h2 : 0 ≤ idxI l p := by unfold idxI; rw [if_pos h]; omega
    repeat' (first | ((with_reducible refine Ad ?_); first | ((first | refine Bn Aa ?_ | refine Bm Aa ?_ | refine Az Aa ?_ | refine Bf Aa Ab hS ?_ | refine Bi Aa Ab hS ?_ | refine Ag Aa ?_ | refine Af Aa ?_ | refine Bs Aa ?_ | refine Bx Aa ?_ | refine Ao Aa ?_ | refine Bw Aa ?_ | refine Br Aa ?_ | refine Be Aa ?_ | refine Bg Aa ?_ | refine Bv Aa (fun hc => ?_) (fun hc => ?_) | refine Ay Aa ?_ | refine Am Aa ?_ | refine Aw Aa ?_ | refine Ap Aa ?_ | refine Ah Aa ?_ | refine Ax Aa ?_ | refine Ar Aa ?_ | refine Aj Aa ?_ | refine Ae Aa ?_ | refine Ai Aa ?_ | refine Bp Aa ?_ | refine Bo Aa ?_ | refine Bu Aa ?_ | refine Bc Aa ?_ | refine As Aa ?_ | refine Ak Aa ?_) <;> refine Ac ?_) | ((first | refine Bh Aa Ab hS ?_ | refine Bt Aa Ab hS ?_ | refine Ba Aa Ab hS ?_ | refine Bd Aa Ab hS ?_); clear hS; intro b w hS; refine Ac ?_) | ((first | refine Av Aa Ab hS ?_ | refine Au Aa Ab hS ?_); clear hS; intro w hS; refine Ac ?_) | (refine Cb Aa Ab hS (indexFunc_any l f ob oc t p HP _ _ (hv.below hS.below) ((hS.below.block _ (blk_lt hob)).trans hob) hm) ?_; clear hS; intro w hS; refine Ac ?_)) | ((fail_if_success (with_reducible refine Ad ?_)); first | go_step | go_step3 | rw [Exit.noGoto_normal] | rw [Exit.noGoto_ret] | rw [Exit.noGoto_exit]))
    go_ret
    exact ⟨by rw [hA.2 h]; rfl, hS.below⟩
  · have h2 : ¬ 0 ≤ idxI l p := by unfold idxI; rw [if_neg h]; omega
    repeat' (first | ((with_reducible refine Ad ?_); first | ((first | refine Bn Aa ?_ | refine Bm Aa ?_ | refine Az Aa ?_ | refine Bf Aa Ab hS ?_ | refine Bi Aa Ab hS ?_ | refine Ag Aa ?_ | refine Af Aa ?_ | refine Bs Aa ?_ | refine Bx Aa ?_ | refine Ao Aa ?_ | refine Bw Aa ?_ | refine Br Aa ?_ | refine Be Aa ?_ | refine Bg Aa ?_ | refine Bv Aa (fun hc => ?_) (fun hc => ?_) | refine Ay Aa ?_ | refine Am Aa ?_ | refine Aw Aa ?_ | refine Ap Aa ?_ | refine Ah Aa ?_ | refine Ax Aa ?_ | refine Ar Aa ?_ | refine Aj Aa ?_ | refine Ae Aa ?_ | refine Ai Aa ?_ | refine Bp Aa ?_ | refine Bo Aa ?_ | refine Bu Aa ?_ | refine Bc Aa ?_ | refine As Aa ?_ | refine Ak Aa ?_) <;> refine Ac ?_) | ((first | refine Bh Aa Ab hS ?_ | refine Bt Aa Ab hS ?_ | refine Ba Aa Ab hS ?_ | refine Bd Aa Ab hS ?_); clear hS; intro b w hS; refine Ac ?_) | ((first | refine Av Aa Ab hS ?_ | refine Au Aa Ab hS ?_); clear hS; intro w hS; refine Ac ?_) | (refine Cb Aa Ab hS (indexFunc_any l f ob oc t p HP _ _ (hv.below hS.below) ((hS.below.block _ (blk_lt hob)).trans hob) hm) ?_; clear hS; intro w hS; refine Ac ?_)) | ((fail_if_success (with_reducible refine Ad ?_)); first | go_step | go_step3 | rw [Exit.noGoto_normal] | rw [Exit.noGoto_ret] | rw [Exit.noGoto_exit]))
    go_ret
    exact ⟨by rw [Bool.eq_false_iff.2 (fun hh => h (hA.1 hh))]; rfl, hS.below⟩
theorem cut_mid {pre post : List Value} {x y : Value} {q : Nat} (h : pre.length = q) : cut (pre ++ x :: y :: post).toArray q 2 = #[x, y] := by
  subst h
  exact cut2 (by show (pre ++ x :: y :: post)[pre.length]? = _; rw [List.getElem?_append_right (Nat.le_refl _), Nat.sub_self]; rfl) (by show (pre ++ x :: y :: post)[pre.length + 1]? = _; rw [List.getElem?_append_right (by omega), Nat.add_sub_cancel_left]; rfl)
theorem paste_mid {pre post : List Value} {a b x y : Value} {q : Nat} (h : pre.length = q) : paste (pre ++ a :: b :: post).toArray q #[x, y] = (pre ++ x :: y :: post).toArray := by
  subst h
  unfold paste
  split
  · next hh =>
    have h0 : pre = [] := List.eq_nil_of_length_eq_zero hh.1
    subst h0
    have h2 : (a :: b :: post).length = 2 := hh.2
    have h3 : post = [] := by
      simp only [List.length_cons] at h2
      exact List.eq_nil_of_length_eq_zero (by omega)
    subst h3
    rfl
  · unfold splice
    simp only [List.size_toArray, List.length_cons, List.length_nil]
    congr 1
    have e1 : (pre ++ a :: b :: post).take pre.length = pre := List.take_left
    have e2 : (pre ++ a :: b :: post).drop (pre.length + (0 + 1 + 1)) = post := by
      rw [List.drop_append, List.drop_of_length_le (by omega), Nat.add_sub_cancel_left]; rfl
    rw [e1, e2]
    simp
theorem filter_take {l : List Rg} {k : Nat} (p : Rg → Bool) (hk : k < l.length) : (l.take (k + 1)).filter p = (l.take k).filter p ++ if p (l.getD k (0, 0)) then [l.getD k (0, 0)] else [] := by
  have e : l.take (k + 1) = l.take k ++ [l.getD k (0, 0)] := by
    rw [List.take_succ_eq_append_getElem hk, List.getD_eq_getElem?_getD, List.getElem?_eq_getElem hk]; rfl
  rw [e, List.filter_append, List.filter_cons, List.filter_nil]
theorem drop_getD {l : List Rg} {k : Nat} (hk : k < l.length) : l.drop k = l.getD k (0, 0) :: l.drop (k + 1) := by
  rw [List.drop_eq_getElem_cons hk, List.getD_eq_getElem?_getD, List.getElem?_eq_getElem hk]; rfl
theorem two_of {l : List Value} (h : 2 ≤ l.length) : ∃ a b r, l = a :: b :: r := by
  match l, h with
  | a :: b :: r, _ => exact ⟨a, b, r, rfl⟩
set_option maxRecDepth 100000 in
set_option maxHeartbeats 8000000 in
theorem delete_own (l : List Rg) (f ob : Nat) [GoF Try.prog f] (oc : Array Value) (t : TypeId) (p : Rg → Bool) (HP : PredO f ob oc t p) (W0 w0 : World) (g c : Nat) (sp : List Value) (L : List Blk) (hS : St W0 w0 ((g, (rgs l ++ sp).toArray, 39) :: L)) (hob : (ob, oc, t) ∈ L)
    (hc : l.length ≤ c) (hcm : c ≤ maxLen) (hsp : sp.length = (c - l.length) * 2) (hm : l.length ≤ 1000000) :
    Calls Try.prog 63 #[.slice (some ⟨g, 0, none⟩) l.length c, .func (.func f) #[] #[.pointer (some ⟨ob, 0, none⟩)]] w0 fun e w' => ∃ sp', e = .returned (.slice (some ⟨g, 0, none⟩) (l.filter fun x => !p x).length c) ∧ sp'.length = (c - (l.filter fun x => !p x).length) * 2 ∧ St W0 w' ((g, (rgs (l.filter fun x => !p x) ++ sp').toArray, 39) :: L) := by
  have hbo : ∀ {w : World} {X : Blk}, St W0 w (X :: L) → blk w ob = some (.cells oc t (0, 0)) := fun h => (h.2.1 _ (List.mem_cons_of_mem _ hob)).2
  have hbo2 : ∀ {w : World} {X Y : Blk}, St W0 w (X :: Y :: L) → blk w ob = some (.cells oc t (0, 0)) := fun h => (h.2.1 _ (List.mem_cons_of_mem _ (List.mem_cons_of_mem _ hob))).2
  have hv : RegsAt w0 (.slice (some ⟨g, 0, none⟩) l.length c) l := regsAt_blk (hS.blk 0 rfl) rfl hc
  have hIdx := indexFunc_any l f ob oc t p HP _ w0 hv (hbo hS) hm
  obtain ⟨I, hI⟩ : ∃ I, idxI l p = I := ⟨_, rfl⟩
  rw [hI] at hIdx
  by_cases hnone : l.findIdx p < l.length
  · obtain ⟨i0, hi0⟩ : ∃ i0, l.findIdx p = i0 := ⟨_, rfl⟩
    have hI2 : I = (i0 : Int) := by rw [← hI]; unfold idxI; rw [if_pos hnone, hi0]
    subst hI2
    have hpre : (l.take i0).filter (fun x => !p x) = l.take i0 := by
      refine List.filter_eq_self.2 fun x hx => ?_
      obtain ⟨j, hj, rfl⟩ := List.getElem_of_mem hx
      have hjl : j < i0 := by simp at hj; omega
      have := List.not_of_lt_findIdx (p := p) (xs := l) (i := j) (by omega)
      simpa using this
    have hpi : p (l.getD i0 (0, 0)) = true := by
      have := List.findIdx_getElem (p := p) (xs := l) (w := hnone)
      rw [List.getD_eq_getElem?_getD, List.getElem?_eq_getElem (by omega)]
      simpa [hi0] using this
    rw [hi0] at hnone
    have hlt0 : (l.take i0).length = i0 := by simp; omega
    go_enter Try.func63, Try.ntmps63
    repeat' (first | ((with_reducible refine Ad ?_); first | ((first | refine Bn Aa ?_ | refine Bm Aa ?_ | refine Az Aa ?_ | refine Bf Aa Ab hS ?_ | refine Bi Aa Ab hS ?_ | refine Ag Aa ?_ | refine Af Aa ?_ | refine Bs Aa ?_ | refine Bx Aa ?_ | refine Ao Aa ?_ | refine Bw Aa ?_ | refine Br Aa ?_ | refine Be Aa ?_ | refine Bg Aa ?_ | refine Bv Aa (fun hc => ?_) (fun hc => ?_) | refine Ay Aa ?_ | refine Am Aa ?_ | refine Aw Aa ?_ | refine Ap Aa ?_ | refine Ah Aa ?_ | refine Ax Aa ?_ | refine Ar Aa ?_ | refine Aj Aa ?_ | refine Ae Aa ?_ | refine Ai Aa ?_ | refine Bp Aa ?_ | refine Bo Aa ?_ | refine Bu Aa ?_ | refine Bc Aa ?_ | refine As Aa ?_ | refine Ak Aa ?_) <;> refine Ac ?_) | ((first | refine Bh Aa Ab hS ?_ | refine Bt Aa Ab hS ?_ | refine Ba Aa Ab hS ?_ | refine Bd Aa Ab hS ?_); clear hS; intro b w hS; refine Ac ?_) | ((first | refine Av Aa Ab hS ?_ | refine Au Aa Ab hS ?_); clear hS; intro w hS; refine Ac ?_) | (refine Cb Aa Ab hS (hIdx) ?_; clear hS; intro w hS; refine Ac ?_)) | ((fail_if_success (with_reducible refine Ad ?_)); first | go_step | go_step3 | rw [Exit.noGoto_normal] | rw [Exit.noGoto_ret] | rw [Exit.noGoto_exit]))
    go_loopw [5, 6] (fun u5 u6 wr => ∃ (i j : Nat) (mid : List Value), i < j ∧ j ≤ l.length ∧ u5 = .int .i64 (i : Int) ∧ u6 = .int .i64 (j : Int) ∧ ((l.take j).filter fun x => !p x).length = i ∧ mid.length = (j - i) * 2 ∧ St W0 wr ((g, (rgs ((l.take j).filter fun x => !p x) ++ mid ++ rgs (l.drop j) ++ sp).toArray, 39) :: L)) (fun _ u6 _ => l.length - (intOf u6).toNat)
    case atStart =>
      have hf : (l.take (i0 + 1)).filter (fun x => !p x) = l.take i0 := by rw [filter_take _ hnone, hpre, hpi]; simp
      refine ⟨i0, i0 + 1, rgs [l.getD i0 (0, 0)], by omega, by omega, rfl, by push_cast; rfl, by rw [hf, hlt0], by rw [rgs_len]; simp, ?_⟩
      rw [hf, ← rgs_app, ← rgs_app]
      have : l.take i0 ++ [l.getD i0 (0, 0)] ++ l.drop (i0 + 1) = l := by
        rw [List.append_assoc]
        show l.take i0 ++ (l.getD i0 (0, 0) :: l.drop (i0 + 1)) = l
        rw [← drop_getD hnone, List.take_append_drop]
      rw [this]
      exact hS
    case round =>
      obtain ⟨i, j, mid, hij, hj, rfl, rfl, hki, hmid, hS⟩ := hrel
      obtain ⟨K, hK⟩ : ∃ K, (l.take j).filter (fun x => !p x) = K := ⟨_, rfl⟩
      rw [hK] at hki hS
      have hKl := rgs_len K
      by_cases hlt : j < l.length
      · obtain ⟨x1, hx1⟩ : ∃ x, (l.getD j (0, 0)).1 = x := ⟨_, rfl⟩
        obtain ⟨x2, hx2⟩ : ∃ x, (l.getD j (0, 0)).2 = x := ⟨_, rfl⟩
        have hx : l.getD j (0, 0) = (x1, x2) := by rw [← hx1, ← hx2]
        have hDl := rgs_len (l.drop (j + 1))
        have hdl : (l.drop (j + 1)).length = l.length - (j + 1) := List.length_drop
        obtain ⟨D, hD⟩ : ∃ D, rgs (l.drop (j + 1)) = D := ⟨_, rfl⟩
        rw [hD] at hDl
        have hcs : rgs K ++ mid ++ rgs (l.drop j) ++ sp = (rgs K ++ mid) ++ .int .i64 x1 :: .int .i64 x2 :: (D ++ sp) := by
          rw [drop_getD hlt, hx, rgs_cons, hD]; simp
        have hft := filter_take (fun x => !p x) hlt
        rw [hK, hx] at hft
        rw [hcs] at hS
        have hcut : cut ((rgs K ++ mid) ++ .int .i64 x1 :: .int .i64 x2 :: (D ++ sp)).toArray (j * 2) 2 = #[.int .i64 x1, .int .i64 x2] := cut_mid (by rw [List.length_append, hKl, hmid, hki]; omega)
        cases hB : p (x1, x2) with
        | true =>
          rw [hB] at hft
          repeat' (first | ((with_reducible refine Ad ?_); first | ((first | refine Bn Aa ?_ | refine Bm Aa ?_ | refine Az Aa ?_ | refine Bf Aa Ab hS ?_ (hv := by first | rfl | exact Bl | (rw [Array.getElem?_toList]; exact hcut)) | refine Bi Aa Ab hS ?_ (hv := by first | exact Bq _ _ (by (try simp only [Ca, Ce, Bz, List.length_append, List.length_set, zs_len, List.length_take, List.length_drop, List.length_cons, List.length_nil]); first | done | rfl | omega) | (exact hcut) | rfl) | refine Ag Aa ?_ | refine Af Aa ?_ | refine Bs Aa ?_ | refine Bx Aa ?_ | refine Ao Aa ?_ | refine Bw Aa ?_ | refine Br Aa ?_ | refine Be Aa ?_ | refine Bg Aa ?_ | refine Bv Aa (fun hc => ?_) (fun hc => ?_) | refine Ay Aa ?_ | refine Am Aa ?_ | refine Aw Aa ?_ | refine Ap Aa ?_ | refine Ah Aa ?_ | refine Ax Aa ?_ (hv' := by first | rfl | exact Bl | (rw [Array.getElem?_toList]; exact hcut)) | refine Ar Aa ?_ | refine Aj Aa ?_ | refine Ae Aa ?_ | refine Ai Aa ?_ | refine Bp Aa ?_ | refine Bo Aa ?_ | refine Bu Aa ?_ | refine Bc Aa ?_ | refine As Aa ?_ | refine Ak Aa ?_ | refine Aq Aa ?_ | refine Bj Aa ?_ | refine Bk Aa ?_) <;> refine Ac ?_) | ((first | refine Bh Aa Ab hS ?_ | refine Bt Aa Ab hS ?_ | refine Ba Aa Ab hS ?_ | refine Bd Aa Ab hS ?_); clear hS; intro b w hS; refine Ac ?_) | ((first | refine Av Aa Ab hS ?_ | refine Au Aa Ab hS ?_ | refine Bb Aa Ab hS ?_); clear hS; intro w hS; refine Ac ?_) | (refine Cb Aa Ab hS (HP.c hB _ (hbo2 hS)) ?_; clear hS; intro w hS; refine Ac ?_)) | ((fail_if_success (with_reducible refine Ad ?_)); first | go_step | go_step3 | rw [Exit.noGoto_normal] | rw [Exit.noGoto_ret] | rw [Exit.noGoto_exit]))
          go_roundw
          case rel =>
            refine ⟨i, j + 1, mid ++ [.int .i64 x1, .int .i64 x2], by omega, by omega, rfl, by push_cast; rfl, by rw [hft]; simpa using hki, by rw [List.length_append, hmid]; simp; omega, ?_⟩
            rw [hft, hD]
            have := Ab.drop hS
            simpa using this
          case measure => simp [intOf]; omega
        | false =>
          rw [hB] at hft
          obtain ⟨a, b2, r, hr⟩ := two_of (l := mid ++ [Value.int .i64 x1, Value.int .i64 x2]) (by simp)
          have hcs2 : (rgs K ++ mid) ++ .int .i64 x1 :: .int .i64 x2 :: (D ++ sp) = rgs K ++ a :: b2 :: (r ++ (D ++ sp)) := by
            have : (rgs K ++ mid) ++ .int .i64 x1 :: .int .i64 x2 :: (D ++ sp) = rgs K ++ (mid ++ [.int .i64 x1, .int .i64 x2]) ++ (D ++ sp) := by simp
            rw [this, hr]; simp
          have hrl : r.length = (j + 1 - (i + 1)) * 2 := by
            have := congrArg List.length hr
            simp only [List.length_append, List.length_cons, List.length_nil, hmid] at this
            omega
          rw [hcs2] at hS hcut
          have hpst : paste (rgs K ++ a :: b2 :: (r ++ (D ++ sp))).toArray (i * 2) #[.int .i64 x1, .int .i64 x2] = (rgs K ++ .int .i64 x1 :: .int .i64 x2 :: (r ++ (D ++ sp))).toArray := paste_mid (by rw [hKl, hki])
          have hlen : (rgs K ++ a :: b2 :: (r ++ (D ++ sp))).length = i * 2 + 2 + (r.length + (D.length + sp.length)) := by simp [hKl, hki]; omega
          repeat' (first | ((with_reducible refine Ad ?_); first | ((first | refine Bn Aa ?_ | refine Bm Aa ?_ | refine Az Aa ?_ | refine Bf Aa Ab hS ?_ (hv := by first | rfl | exact Bl | (rw [Array.getElem?_toList]; exact hcut)) | refine Bi Aa Ab hS ?_ (hv := by first | exact Bq _ _ (by (try simp only [Ca, Ce, Bz, List.length_append, List.length_set, zs_len, List.length_take, List.length_drop, List.length_cons, List.length_nil]); first | done | rfl | omega) | (exact hcut) | rfl) | refine Ag Aa ?_ | refine Af Aa ?_ | refine Bs Aa ?_ | refine Bx Aa ?_ | refine Ao Aa ?_ | refine Bw Aa ?_ | refine Br Aa ?_ | refine Be Aa ?_ | refine Bg Aa ?_ | refine Bv Aa (fun hc => ?_) (fun hc => ?_) | refine Ay Aa ?_ | refine Am Aa ?_ | refine Aw Aa ?_ | refine Ap Aa ?_ | refine Ah Aa ?_ | refine Ax Aa ?_ (hv' := by first | rfl | exact Bl | (rw [Array.getElem?_toList]; exact hcut)) | refine Ar Aa ?_ | refine Aj Aa ?_ | refine Ae Aa ?_ | refine Ai Aa ?_ | refine Bp Aa ?_ | refine Bo Aa ?_ | refine Bu Aa ?_ | refine Bc Aa ?_ | refine As Aa ?_ | refine Ak Aa ?_ | refine Aq Aa ?_ | refine Bj Aa ?_ | refine Bk Aa ?_) <;> refine Ac ?_) | ((first | refine Bh Aa Ab hS ?_ | refine Bt Aa Ab hS ?_ | refine Ba Aa Ab hS ?_ | refine Bd Aa Ab hS ?_); clear hS; intro b w hS; refine Ac ?_) | ((first | refine Av Aa Ab hS ?_ | refine Au Aa Ab hS ?_ | refine Bb Aa Ab hS ?_); clear hS; intro w hS; refine Ac ?_) | (refine Cb Aa Ab hS (HP.c hB _ (hbo2 hS)) ?_; clear hS; intro w hS; refine Ac ?_)) | ((fail_if_success (with_reducible refine Ad ?_)); first | go_step | go_step3 | rw [Exit.noGoto_normal] | rw [Exit.noGoto_ret] | rw [Exit.noGoto_exit]))
          go_roundw
          case rel =>
            refine ⟨i + 1, j + 1, r, by omega, by omega, by push_cast; rfl, by push_cast; rfl, by rw [hft]; simp [hki], hrl, ?_⟩
            have h9 := Ab.drop hS
            rw [hpst] at h9
            rw [hft, hD]
            simpa [rgs_app, rgs_cons, rgs_nil] using h9
          case measure => simp [intOf]; omega
      · obtain rfl : j = l.length := by omega
        rw [List.take_length] at hK
        rw [List.drop_length, rgs_nil, List.append_nil, List.append_assoc] at hS
        have hms : (mid ++ sp).length = (c - i) * 2 := by rw [List.length_append, hmid, hsp]; omega
        have hil : i < l.length := hij
        repeat' (first | ((with_reducible refine Ad ?_); first | ((first | refine Bn Aa ?_ | refine Bm Aa ?_ | refine Az Aa ?_ | refine Bf Aa Ab hS ?_ | refine Bi Aa Ab hS ?_ | refine Ag Aa ?_ | refine Af Aa ?_ | refine Bs Aa ?_ | refine Bx Aa ?_ | refine Ao Aa ?_ | refine Bw Aa ?_ | refine Br Aa ?_ | refine Be Aa ?_ | refine Bg Aa ?_ | refine Bv Aa (fun hc => ?_) (fun hc => ?_) | refine Ay Aa ?_ | refine Am Aa ?_ | refine Aw Aa ?_ | refine Ap Aa ?_ | refine Ah Aa ?_ | refine Ax Aa ?_ | refine Ar Aa ?_ | refine Aj Aa ?_ | refine Ae Aa ?_ | refine Ai Aa ?_ | refine Bp Aa ?_ | refine Bo Aa ?_ | refine Bu Aa ?_ | refine Bc Aa ?_ | refine As Aa ?_ | refine Ak Aa ?_ | refine Aq Aa ?_ | refine Bj Aa ?_ | refine Bk Aa ?_) <;> refine Ac ?_) | ((first | refine Bh Aa Ab hS ?_ | refine Bt Aa Ab hS ?_ | refine Ba Aa Ab hS ?_ | refine Bd Aa Ab hS ?_); clear hS; intro b w hS; refine Ac ?_) | ((first | refine Av Aa Ab hS ?_ | refine Au Aa Ab hS ?_ | refine Bb Aa Ab hS ?_); clear hS; intro w hS; refine Ac ?_)) | ((fail_if_success (with_reducible refine Ad ?_)); first | go_step | go_step3 | rw [Exit.noGoto_normal] | rw [Exit.noGoto_ret] | rw [Exit.noGoto_exit]))
        refine s_clear Aa Ab hS (by rfl) (by rfl) (by rfl) (by infer_instance) (zc := [.int .i64 0, .int .i64 0]) (by infer_instance) (by rfl) (by simp [Value.oneCell']) (by omega) (by exact at_ 0 rfl) (pre := rgs K) (mid := mid ++ sp) (by rfl) (by rw [hKl, hki]) (by rw [hms]; omega) ?_
        clear hS
        intro z w hz hS
        refine Ac ?_
        repeat' (first | ((with_reducible refine Ad ?_); first | ((first | refine Bn Aa ?_ | refine Bm Aa ?_ | refine Az Aa ?_ | refine Bf Aa Ab hS ?_ | refine Bi Aa Ab hS ?_ | refine Ag Aa ?_ | refine Af Aa ?_ | refine Bs Aa ?_ | refine Bx Aa ?_ | refine Ao Aa ?_ | refine Bw Aa ?_ | refine Br Aa ?_ | refine Be Aa ?_ | refine Bg Aa ?_ | refine Bv Aa (fun hc => ?_) (fun hc => ?_) | refine Ay Aa ?_ | refine Am Aa ?_ | refine Aw Aa ?_ | refine Ap Aa ?_ | refine Ah Aa ?_ | refine Ax Aa ?_ | refine Ar Aa ?_ | refine Aj Aa ?_ | refine Ae Aa ?_ | refine Ai Aa ?_ | refine Bp Aa ?_ | refine Bo Aa ?_ | refine Bu Aa ?_ | refine Bc Aa ?_ | refine As Aa ?_ | refine Ak Aa ?_ | refine Aq Aa ?_ | refine Bj Aa ?_ | refine Bk Aa ?_) <;> refine Ac ?_) | ((first | refine Bh Aa Ab hS ?_ | refine Bt Aa Ab hS ?_ | refine Ba Aa Ab hS ?_ | refine Bd Aa Ab hS ?_); clear hS; intro b w hS; refine Ac ?_) | ((first | refine Av Aa Ab hS ?_ | refine Au Aa Ab hS ?_ | refine Bb Aa Ab hS ?_); clear hS; intro w hS; refine Ac ?_)) | ((fail_if_success (with_reducible refine Ad ?_)); first | go_step | go_step3 | rw [Exit.noGoto_normal] | rw [Exit.noGoto_ret] | rw [Exit.noGoto_exit]))
        go_ret
        exact ⟨z, by rw [hK, hki]; rfl, by rw [hz, hms, hK, hki], by rw [hK]; exact hS⟩
  · have hI2 : I = -1 := by rw [← hI]; unfold idxI; rw [if_neg hnone]
    subst hI2
    have hall : l.filter (fun x => !p x) = l := by
      refine List.filter_eq_self.2 fun x hx => ?_
      have h1 : l.any p = false := by
        rw [Bool.eq_false_iff]
        intro h2
        rw [List.any_eq_true] at h2
        exact hnone (List.findIdx_lt_length.2 h2)
      rw [List.any_eq_false] at h1
      simpa using h1 x hx
    go_enter Try.func63, Try.ntmps63
    repeat' (first | ((with_reducible refine Ad ?_); first | ((first | refine Bn Aa ?_ | refine Bm Aa ?_ | refine Az Aa ?_ | refine Bf Aa Ab hS ?_ | refine Bi Aa Ab hS ?_ | refine Ag Aa ?_ | refine Af Aa ?_ | refine Bs Aa ?_ | refine Bx Aa ?_ | refine Ao Aa ?_ | refine Bw Aa ?_ | refine Br Aa ?_ | refine Be Aa ?_ | refine Bg Aa ?_ | refine Bv Aa (fun hc => ?_) (fun hc => ?_) | refine Ay Aa ?_ | refine Am Aa ?_ | refine Aw Aa ?_ | refine Ap Aa ?_ | refine Ah Aa ?_ | refine Ax Aa ?_ | refine Ar Aa ?_ | refine Aj Aa ?_ | refine Ae Aa ?_ | refine Ai Aa ?_ | refine Bp Aa ?_ | refine Bo Aa ?_ | refine Bu Aa ?_ | refine Bc Aa ?_ | refine As Aa ?_ | refine Ak Aa ?_) <;> refine Ac ?_) | ((first | refine Bh Aa Ab hS ?_ | refine Bt Aa Ab hS ?_ | refine Ba Aa Ab hS ?_ | refine Bd Aa Ab hS ?_); clear hS; intro b w hS; refine Ac ?_) | ((first | refine Av Aa Ab hS ?_ | refine Au Aa Ab hS ?_); clear hS; intro w hS; refine Ac ?_) | (refine Cb Aa Ab hS (hIdx) ?_; clear hS; intro w hS; refine Ac ?_)) | ((fail_if_success (with_reducible refine Ad ?_)); first | go_step | go_step3 | rw [Exit.noGoto_normal] | rw [Exit.noGoto_ret] | rw [Exit.noGoto_exit]))
    go_ret
    rw [hall]
    exact ⟨sp, rfl, hsp, hS⟩
end Go.Proofs.Ytkfggilildiflac

namespace Go.Proofs.Ytkfggilildiflac
open Go.RowKit
attribute [local irreducible] wpList wpListIn
section
variable {P : Program} {ops : Array Oper} {W : List Oper → Act → World → Prop} {o : Oper} {rest : List Oper} {a : Act} {w : World} {v : Value} {B : Nat} {H : World → List Blk → Prop} {L : List Blk}
theorem run_copyC {dT sT ty e size bytes : Nat} (hT : SlT P dT e size bytes) {g off dLen dCap sLen sCap : Nat} {q : Addr} {cur : Array Value} {t : TypeId} {cs : List Value} (hg : blk w g = some (.cells cur t (0, 0))) (hn : cs.length = Nat.min sLen dLen * size)
    (hsrc : ∀ j v, cs[j]? = some v → w.cell? (q.add j) = some v) (hfit : off + cs.length ≤ cur.size) (h1 : ∀ v ∈ cs, v.oneCell' = true) :
    (Builtin.copy_ #[dT, sT] ty #[.slice (some ⟨g, off, none⟩) dLen dCap, .slice (some q) sLen sCap]).run P w = .ok (goInt (Nat.min sLen dLen)) (w.setRow g (splice cur off cs.toArray)) := by
  obtain ⟨ht, inf, z, hie, hz, hsz, hby, hzs, hpos⟩ := elemB_iff hT.is
  have hl := run_loadCells_list (P := P) w q cs hsrc
  have hst := run_storeCells_at (P := P) g off t cs 0 cur w hg (by simpa using hfit) h1
  rw [hn] at hl
  simp [Builtin.copy_, run_underlying ht, Builtin.lenOf, Builtin.firstCells, sizeOf, typeInfo, hie, hsz, hl, hst]
theorem s_copyC {d s : Operand} {dT sT e size bytes b off n c m c2 i : Nat} {p : Addr} {cs cs2 : Array Value} {pre mid post xs : List Value} {t : TypeId} {L' : List Blk} {q : Int} (hs : Stp P ops W) (hH : Own B H) (hS : H w L) (hw : Region.wanted o (yielded ops a.tmps) = true)
    (hop : o.op = .call { callee := .builtin .copy, args := #[d, s], argTypes := #[dT, sT] }) (hd : evO a d = some (.slice (some ⟨b, off, none⟩) n c)) (hy : evO a s = some (.slice (some p) m c2)) (hT : SlT P dT e size bytes) (hi : L[i]? = some (b, cs, t))
    (hcs : cs.toList = pre ++ mid ++ post) (hpre : pre.length = off) (hmid : mid.length = xs.length) (hxs : xs.length = Nat.min m n * size) (hsrc : ∀ j v, xs[j]? = some v → w.cell? (p.add j) = some v) (hone : ∀ v ∈ xs, v.oneCell' = true)
    (hc2 : (pre ++ xs ++ post).toArray = cs2) (hL : L.set i (b, cs2, t) = L') (hq : ((Nat.min m n : Nat) : Int) = q) (hk : ∀ w', H w' L' → W rest (a.put o.dst (.int .i64 q)) w') : W (o :: rest) a w := by
  have hcsz : cs.size = off + xs.length + post.length := by rw [← Array.length_toList, hcs, List.length_append, List.length_append, hpre, hmid]
  have hrun := run_copyC (P := P) (ty := o.type) (sT := sT) (dCap := c) (sCap := c2) (cs := xs) (g := b) (off := off) hT (hH.blk i hS hi) hxs hsrc (by rw [hcsz]; omega) hone
  have hrow : splice cs off xs.toArray = (pre ++ xs ++ post).toArray := by
    unfold splice
    rw [hcs, ← hpre]
    have e1 : (pre ++ mid ++ post).take pre.length = pre := by rw [List.append_assoc, List.take_left]
    have e2 : (pre ++ mid ++ post).drop (pre.length + xs.toArray.size) = post := by
      rw [List.size_toArray, ← hmid, ← List.length_append, List.drop_left]
    rw [e1, e2]
  subst hq hL hc2
  refine hs.go hw (by unfold Dh; rw [hop]) ?_ (hk _ (hH.setRow i _ hS hi))
  unfold execOp; rw [hop]
  simp only [resolve, Sem.run_bind, Sem.run_pure, Result.andThen_ok, invoke, builtin]
  have e1 : #[d, s].map a.eval = #[.slice (some ⟨b, off, none⟩) n c, .slice (some p) m c2] := by simp [Ct hd, Ct hy]
  rw [e1, hrun, hrow]
  rfl
theorem r_sliceE {t : TypeId} {x : Operand} {lo hi : Option Operand} {b off n c m : Nat} {l h : Int} (hop : o.op = .slice t x lo hi none) (hx : evO a x = some (.slice (some ⟨b, off, none⟩) n c)) (hm : ElT P t m) (hl : bnd a 0 lo = some l) (hh : bnd a n hi = some h) (h0 : l = (c : Int) ∧ h = (c : Int)) : (execOp a.eval o).run P w = .ok (.value (.slice (some ⟨b, off, none⟩) 0 0)) w := by
  obtain ⟨e, hu, hs⟩ := elT_iff hm.is
  obtain ⟨rfl, rfl⟩ := h0
  unfold execOp; rw [hop]
  have hb := run_bounds (P := P) (w := w) (isS := true) (n := n) (c := c) hl hh ⟨by omega, by omega, by omega⟩
  simp only [Option.map_none]
  simp only [Ct hx, Instr.sliceAt, Instr.slice, Sem.run_bind, run_underlying hu, Result.andThen_ok, hb, run_sizeOf hs]
  simp
/-- append(x, make(k)...) that outgrows what x has: a new block; the elder one is kept. -/
theorem s_appendZG {x y : Operand} {t tn e size bytes b n c i k nk : Nat} {kq kn : IntKind} {cs : Array Value} {olds post : List Value} (hs : Stp P ops W) (hH : Own B H) (hS : H w L) (hw : Region.wanted o (yielded ops a.tmps) = true)
    (hop : o.op = .call { callee := .builtin .append, args := #[x, y], argTypes := #[t, tn] }) (hx : evO a x = some (.slice (some ⟨b, 0, none⟩) n c)) (hy : evO a y = some (.int kq (k : Int))) (hT : SlT P t e size bytes) (htn : IntT P tn kn)
    (hi : L[i]? = some (b, cs, e)) (hcs : cs.toList = olds ++ post) (ho : olds.length = n * size) (hk0 : 0 < k) (hg : c < n + k) (hmax : n + k ≤ 1000000 ∧ c ≤ n + k ∧ bytes ≤ 1000) (hnk : n + k = nk)
    (hk : ∀ (b' c' : Nat) (rest' : List Value) (w' : World), nk ≤ c' → c' ≤ maxLen → rest'.length = (c' - n) * size → H w' ((b', (olds ++ rest').toArray, e) :: L) → W rest (a.put o.dst (.slice (some ⟨b', 0, none⟩) nk c')) w') : W (o :: rest) a w := by
  subst hnk
  obtain ⟨ht, inf, zz, hie, hz, hsz, hby, hzs, hpos⟩ := elemB_iff hT.is
  have hd : Dh o = false := by unfold Dh; rw [hop]
  have hb := hH.blk i hS hi
  have hl := run_loadCells_list (P := P) w.drew ⟨b, 0, none⟩ olds (fun j u hu => by
    rw [addr_add, Nat.zero_add]
    refine (cell_of_row w b j cs e (0, 0) hb).trans ?_
    rw [← Array.getElem?_toList, hcs, List.getElem?_append_left (List.getElem?_eq_some_iff.1 hu).1]; exact hu)
  rw [ho] at hl
  have hold : (Builtin.firstCells inf.size n (.slice (some ⟨b, 0, none⟩) n c)).run P w.drew = .ok olds.toArray w.drew := by
    simp [Builtin.firstCells, hsz, hl]
  have hnx : Builtin.nextslicecap (n + k) c ≤ 2 * (n + k) := nextslicecap_le hg
  have hr := Lib.run_append_grow_zeros (P := P) w t tn o.type e inf zz kq kn ht htn.is hie hz (some ⟨b, 0, none⟩) n c olds hold k hk0 (by omega) hg (by omega) (by rw [hby]; have := Nat.mul_le_mul (show k ≤ 1000000 by omega) hmax.2.2; omega) (by rw [hby]; have := Nat.mul_le_mul (show Builtin.nextslicecap (n + k) c ≤ 2000000 by omega) hmax.2.2; omega)
  have hcap := grownCap_ge w (n + k) c e
  have hcm := grownCap_le_maxLen w (n + k) c e (by unfold maxLen; omega)
  generalize grownCap w (n + k) c e = c' at *
  have hS1 : H w.drew L := hH.call hS ⟨rfl, rfl, rfl, Nat.le_refl _, fun _ _ => rfl⟩
  have hcell : olds.toArray ++ Builtin.zeroCells zz.cells k ++ Builtin.zeroCells zz.cells (c' - (n + k)) = (olds ++ ((Builtin.zeroCells zz.cells k).toList ++ (Builtin.zeroCells zz.cells (c' - (n + k))).toList)).toArray := by
    apply Array.ext'; simp
  rw [hcell] at hr
  have e1 : #[x, y].map a.eval = #[.slice (some ⟨b, 0, none⟩) n c, .int kq (k : Int)] := by simp [Ct hx, Ct hy]
  have hlen : ((Builtin.zeroCells zz.cells k).toList ++ (Builtin.zeroCells zz.cells (c' - (n + k))).toList).length = (c' - n) * size := by
    rw [List.length_append, Array.length_toList, Array.length_toList, size_zeroCells, size_zeroCells, hzs, ← Nat.add_mul]
    congr 1
    omega
  generalize (Builtin.zeroCells zz.cells k).toList ++ (Builtin.zeroCells zz.cells (c' - (n + k))).toList = R2 at *
  refine hs.go hw hd ?_ (hk w.heap.size c' R2 (w.drew.alloc (.cells (olds ++ R2).toArray e)) hcap hcm hlen (hH.alloc _ e hS1))
  unfold execOp; rw [hop]
  simp only [resolve, Sem.run_bind, Sem.run_pure, Result.andThen_ok, invoke, builtin, e1, hr]
theorem s_over {x : Operand} {xs : Array Operand} {ts : Array TypeId} {f : FuncId} {tS tR e size bytes g1 o1 n1 c1 g2 o2 n2 c2 i1 i2 : Nat} {fn : Func} {cs1 cs2 : Array Value} {t1 t2 : TypeId} (hs : Stp P ops W) (hH : Own B H) (hS : H w L) (hw : Region.wanted o (yielded ops a.tmps) = true)
    (hop : o.op = .call { callee := .value x, args := xs, argTypes := ts }) (hx : evO a x = some (.func (.func f) #[] #[])) (hxs : evs a xs.toList = some [.slice (some ⟨g1, o1, none⟩) n1 c1, .slice (some ⟨g2, o2, none⟩) n2 c2])
    (hf : P.funcs[f]? = some fn) (hname : (fn.name == "runtime.NumGoroutine") = false) (hb : fn.body.isNone = true) (hn : Extern.findNext fn = none) (he : Extern.find fn = some (Extern.SlicesOverlaps.overlaps #[tS, tS] #[tR])) (hT : SlT P tS e size bytes)
    (hne : g1 ≠ g2) (hi1 : L[i1]? = some (g1, cs1, t1)) (hi2 : L[i2]? = some (g2, cs2, t2)) (hsz2 : cs2.size ≠ 0) (hk : W rest (a.put o.dst (.bool false)) w) : W (o :: rest) a w := by
  obtain ⟨ht, inf, z, hie, hz, hsz, hby, hzs, hpos⟩ := elemB_iff hT.is
  have hb1 : w.heap[g1]? = some (.cells cs1 t1 (0, 0)) := hH.blk i1 hS hi1
  have hb2 : w.heap[g2]? = some (.cells cs2 t2 (0, 0)) := hH.blk i2 hS hi2
  have hr := Lib.run_overlaps_apart (P := P) w tS tR e ht size (fun w => by simp [sizeOf, typeInfo, hie, hsz]) ⟨g1, o1, none⟩ ⟨g2, o2, none⟩ n1 c1 n2 c2 hne t1 t2 cs1.size cs2.size (by simp [World.shape?, hb1]) (by simp [World.shape?, hb2]) hsz2 (by simp [World.frozen?, hb1]) (by simp [World.frozen?, hb1])
  refine hs.go hw (by unfold Dh; rw [hop]) ?_ hk
  unfold execOp; rw [hop]
  have e1 : xs.map a.eval = #[.slice (some ⟨g1, o1, none⟩) n1 c1, .slice (some ⟨g2, o2, none⟩) n2 c2] := by
    have := evs_eval hxs
    apply Array.ext'
    simp [this]
  simp only [resolve, Ct hx, Deferred.ofValue, Sem.run_bind, Sem.run_pure, Result.andThen_ok, invoke, e1]
  have h2 := run_callFunc_extern (P := P) hf hname hb hn he #[.slice (some ⟨g1, o1, none⟩) n1 c1, .slice (some ⟨g2, o2, none⟩) n2 c2] w
  rw [hr] at h2
  simpa using h2
end
end Go.Proofs.Ytkfggilildiflac
