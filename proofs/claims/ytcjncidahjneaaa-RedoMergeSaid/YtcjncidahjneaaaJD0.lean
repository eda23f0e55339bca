/-
  Laws that the claims of this seat use, of several texts in one: Perm, AnyW, ResvG, Wd, Wp, Wp1, Wn. No condition of their own.
-/
import Derived.Lib.AppendZerosOnto
import Derived.Lib.Overlaps
import Derived.Laws.Externs
import Derived.Test.YtcjncidahjneaaaJC1

namespace Go.Proofs.Ytcjncidahjneaaa
open Go.RowKit
def nthL {α : Type} : List α → Nat → Option α
  | [], _ => none
  | a :: _, 0 => some a
  | _ :: l, n + 1 => nthL l n
theorem nthL_eq {α : Type} : ∀ (l : List α) (n : Nat), nthL l n = l[n]?
  | [], n => by simp [nthL]
  | a :: l, 0 => by simp [nthL]
  | a :: l, n + 1 => by simp [nthL, nthL_eq l n]
/-- Where a number stands. -/
def posL : List Nat → Nat → Nat
  | [], _ => 0
  | y :: l, x => if y = x then 0 else posL l x + 1
def reE (s : List Nat) (e : Edge) : Edge := ⟨posL s e.on, e.ground⟩
def reG (s : List Nat) : Option (Nat × Bool) → Option (Nat × Bool)
  | none => none
  | some (j, b) => some (posL s j, b)
def reO (s : List Nat) (o : Oper) : Oper := ⟨o.dst, o.op, o.type, o.pos, (o.after.toList.map (reE s)).toArray, reG s o.guard⟩
def orD : Option Oper → Oper
  | some o => o
  | none => default
def permL (s : List Nat) (l : List Oper) : List Oper := s.map fun i => reO s (orD (nthL l i))
def permOK (s : List Nat) (l : List Oper) : Bool :=
  (List.range l.length).all (fun i => decide (posL s i < l.length) && nthL s (posL s i) == some i) &&
  (List.range l.length).all (fun k => match nthL s k with | some i => decide (i < l.length) && posL s i == k | none => false) && s.length == l.length &&
  l.all (fun o => o.after.toList.all (fun e => decide (e.on < l.length)) && (match o.guard with | some g => decide (g.1 < l.length) | none => true))
section
variable {P : Program} {md : Region.Mode} {Q : Exit → Act → World → Prop} {s : List Nat} {l : List Oper}
theorem perm_1 (h : permOK s l = true) {i : Nat} (hi : i < l.length) : posL s i < l.length ∧ s[posL s i]? = some i := by
  simp only [permOK, Bool.and_eq_true] at h
  have := List.all_eq_true.1 h.1.1.1 i (List.mem_range.2 hi)
  simp only [Bool.and_eq_true, decide_eq_true_eq, beq_iff_eq, nthL_eq] at this
  exact this
theorem perm_2 (h : permOK s l = true) {k : Nat} (hk : k < l.length) : ∃ i, s[k]? = some i ∧ i < l.length ∧ posL s i = k := by
  simp only [permOK, Bool.and_eq_true] at h
  have := List.all_eq_true.1 h.1.1.2 k (List.mem_range.2 hk)
  rw [nthL_eq] at this
  split at this
  · next i hi =>
    simp only [Bool.and_eq_true, decide_eq_true_eq, beq_iff_eq] at this
    exact ⟨i, hi, this⟩
  · cases this
theorem perm_len (h : permOK s l = true) : (permL s l).length = l.length := by
  simp only [permOK, Bool.and_eq_true, beq_iff_eq] at h
  unfold permL
  rw [List.length_map, h.1.2]
theorem perm_on (h : permOK s l = true) {i : Nat} {o : Oper} (hi : l[i]? = some o) {e : Edge} (he : e ∈ o.after) : e.on < l.length := by
  simp only [permOK, Bool.and_eq_true] at h
  have := List.all_eq_true.1 h.2 o (List.mem_of_getElem? hi)
  simp only [Bool.and_eq_true] at this
  have := List.all_eq_true.1 this.1 e (by simpa using he)
  simpa using this
theorem perm_guard (h : permOK s l = true) {i : Nat} {o : Oper} (hi : l[i]? = some o) {g : Nat × Bool} (hg : o.guard = some g) : g.1 < l.length := by
  simp only [permOK, Bool.and_eq_true] at h
  have := List.all_eq_true.1 h.2 o (List.mem_of_getElem? hi)
  simp only [Bool.and_eq_true, hg] at this
  simpa using this.2
theorem perm_at (h : permOK s l = true) {i : Nat} {o : Oper} (hi : l[i]? = some o) : (permL s l)[posL s i]? = some (reO s o) := by
  have hil := (List.getElem?_eq_some_iff.1 hi).1
  unfold permL
  rw [List.getElem?_map, (perm_1 h hil).2]
  simp only [Option.map_some, nthL_eq, hi, orD]
theorem perm_yielded (h : permOK s l = true) (tmps : Array Value) {j : Nat} (hj : j < l.length) : yielded (permL s l).toArray tmps (posL s j) = yielded l.toArray tmps j := by
  have hg : l[j]? = some l[j] := List.getElem?_eq_getElem hj
  have h1 := perm_at h hg
  unfold yielded
  rw [List.getElem?_toArray, List.getElem?_toArray, h1, hg]
  rfl
theorem perm_wanted (h : permOK s l = true) {i : Nat} {o : Oper} (hi : l[i]? = some o) (tmps : Array Value) : Region.wanted (reO s o) (yielded (permL s l).toArray tmps) = Region.wanted o (yielded l.toArray tmps) := by
  unfold Region.wanted
  cases hg : o.guard with
  | none => simp only [reO, hg, reG]
  | some g =>
    obtain ⟨j, b⟩ := g
    have := perm_yielded h tmps (perm_guard h hi hg)
    simp only [reO, hg, reG] at this ⊢
    rw [this]
theorem perm_wp (o : Oper) (a : Act) (w : World) (K : Act → World → Prop) : Oper.wp P (reO s o) a w K Q ↔ Oper.wp P o a w K Q := Iff.rfl
theorem perm_ready (h : permOK s l = true) {x y : Array Bool} (hx : x.size = l.length) (hy : y.size = l.length) (hxy : ∀ i, i < l.length → y.getD (posL s i) true = x.getD i true) {i : Nat} (hil : i < l.length) :
    posL s i ∈ Region.ready md (permL s l).toArray y ↔ i ∈ Region.ready md l.toArray x := by
  have hg : l[i]? = some l[i] := List.getElem?_eq_getElem hil
  have hp := perm_at h hg
  rw [mem_ready, mem_ready, hxy i hil]
  refine and_congr Iff.rfl ⟨?_, ?_⟩
  · rintro ⟨o, ho, hall⟩
    rw [List.getElem?_toArray, hp] at ho
    obtain rfl := Option.some.inj ho
    refine ⟨l[i], by rw [List.getElem?_toArray]; exact hg, fun e he hb => ?_⟩
    have hon := perm_on h hg he
    have h1 := hall (reE s e) (by simp only [reO, List.mem_toArray]; exact List.mem_map.2 ⟨e, by simpa using he, rfl⟩) hb
    have hp1 := (perm_1 h hon).1
    have h1 : y.getD (posL s e.on) false = true := h1
    rw [getD_flip (by omega) false true] at h1 ⊢
    rw [← hxy _ hon]; exact h1
  · rintro ⟨o, ho, hall⟩
    rw [List.getElem?_toArray, hg] at ho
    obtain rfl := Option.some.inj ho
    refine ⟨reO s l[i], by rw [List.getElem?_toArray]; exact hp, fun e he hb => ?_⟩
    simp only [reO, List.mem_toArray] at he
    obtain ⟨e0, he0, rfl⟩ := List.mem_map.1 he
    have he1 : e0 ∈ l[i].after := by simpa using he0
    have hon := perm_on h hg he1
    have h1 := hall e0 he1 hb
    have hp1 := (perm_1 h hon).1
    show y.getD (posL s e0.on) false = true
    rw [getD_flip (by omega) false true] at h1 ⊢
    rw [hxy _ hon]; exact h1
theorem any_perm (h : permOK s l = true) : ∀ (fuel : Nat) (x y : Array Bool) (a : Act) (w : World), x.size = l.length → y.size = l.length → (∀ i, i < l.length → y.getD (posL s i) true = x.getD i true) →
    wpAny P md (permL s l).toArray Q fuel y a w → wpAny P md l.toArray Q fuel x a w := by
  intro fuel
  have hnil : ∀ (x y : Array Bool), x.size = l.length → y.size = l.length → (∀ i, i < l.length → y.getD (posL s i) true = x.getD i true) → (Region.ready md (permL s l).toArray y = [] ↔ Region.ready md l.toArray x = []) := by
    intro x y hx hy hxy
    constructor
    · intro h0
      refine List.eq_nil_iff_forall_not_mem.2 fun i hi => ?_
      obtain ⟨_, o, ho, _⟩ := mem_ready.1 hi
      have hil : i < l.length := by simpa using (Array.getElem?_eq_some_iff.1 ho).1
      have := (perm_ready (md := md) h hx hy hxy hil).2 hi
      rw [h0] at this; cases this
    · intro h0
      refine List.eq_nil_iff_forall_not_mem.2 fun k hk => ?_
      obtain ⟨_, o, ho, _⟩ := mem_ready.1 hk
      have hkl : k < l.length := by have := (Array.getElem?_eq_some_iff.1 ho).1; rw [List.size_toArray, perm_len h] at this; exact this
      obtain ⟨i, hi, hil, rfl⟩ := perm_2 h hkl
      have := (perm_ready (md := md) h hx hy hxy hil).1 hk
      rw [h0] at this; cases this
  induction fuel with
  | zero =>
    intro x y a w hx hy hxy hA
    exact ⟨(hnil x y hx hy hxy).1 hA.1, hA.2⟩
  | succ fuel ih =>
    intro x y a w hx hy hxy hA
    refine ⟨fun h0 => hA.1 ((hnil x y hx hy hxy).2 h0), fun i hi => ?_⟩
    obtain ⟨_, o, ho, _⟩ := mem_ready.1 hi
    have hil : i < l.length := by simpa using (Array.getElem?_eq_some_iff.1 ho).1
    have ho2 : l[i]? = some o := by simpa using ho
    have h1 := hA.2 (posL s i) ((perm_ready (md := md) h hx hy hxy hil).2 hi)
    have hp := perm_at h ho2
    have hK : ∀ a' w', wpAny P md (permL s l).toArray Q fuel (y.setIfInBounds (posL s i) true) a' w' → wpAny P md l.toArray Q fuel (x.setIfInBounds i true) a' w' := fun a' w' hh => by
      refine ih _ _ a' w' (by simpa using hx) (by simpa using hy) (fun j hj => ?_) hh
      have hj1 := perm_1 h hj
      have hi1 := perm_1 h hil
      by_cases hji : j = i
      · subst hji
        simp [Array.getD, hx, hy, hj, hj1.1]
      · have hne : posL s i ≠ posL s j := fun e => hji (by
          have := hj1.2
          rw [← e, hi1.2] at this
          exact (Option.some.inj this).symm)
        rw [getD_set_ne true hne, getD_set_ne true (Ne.symm hji)]
        exact hxy j hj
    unfold wpOp at h1 ⊢
    rw [List.getElem?_toArray, hp] at h1
    rw [List.getElem?_toArray, ho2]
    simp only at h1 ⊢
    rw [perm_wanted h ho2] at h1
    split
    · next hw =>
      rw [if_pos hw] at h1
      exact h1.imp (fun h2 => Oper.wp_mono hK ((perm_wp o a w _).1 h2)) id
    · next hw =>
      rw [if_neg hw] at h1
      exact hK _ _ h1
theorem any_mono {n : Nat} {a : Act} {w : World} (hB : frontOK md (l.take n) (l.drop n) = true)
    (h : wpM P md l.toArray w (fun a' F => ∀ b w', Cls w w' → (∀ x ∈ F, w.heap.size ≤ b x.1 ∧ blk w' (b x.1) = some (.cells x.2.1 x.2.2 (0, 0))) → (∀ x ∈ F, ∀ y ∈ F, x.1 ≠ y.1 → b x.1 ≠ b y.1) → wpList P l.toArray Q (l.drop n) (a' b) w') (l.take n) 0 (fun _ => a) []) :
    wpAny P md l.toArray Q l.length (Array.replicate l.length false) a { w with drawn := w.drawn + 1 } := by
  have hh : l.take n ++ l.drop n = l := List.take_append_drop n l
  generalize l.take n = A at *
  generalize l.drop n = T at *
  subst hh
  obtain ⟨L, hL, hstep, hQ⟩ := wpM_out A 0 _ [] h
  have hc : Cls w { w with drawn := w.drawn + 1 } := ⟨rfl, rfl, rfl, Nat.le_refl _, fun _ _ => rfl⟩
  refine any_front hB hL hstep (fun b w' hN => hQ b w' hN.1 (fun x hx => ?_) (fun x hx y hy hne => ?_)) _ _ (fun _ => 0) a _ (by simp) (fun j o _ hl => by simp only [Array.getD] at hl; split at hl <;> simp at hl) (fun j _ hj => by simp only [List.length_append] at hj; simp [Array.getD]; omega) ?_ ?_ ?_
  · rcases mem_factsT _ _ _ hx with h1 | ⟨k, o, mk, hk, he⟩
    · cases h1
    · have : x.1 = k := by omega
      rw [this]
      exact hN.2.1 k o mk _ _ hk rfl
  · rcases mem_factsT _ _ _ hx with h1 | ⟨k, o, mk, hk, he⟩
    · cases h1
    rcases mem_factsT _ _ _ hy with h1 | ⟨k', o', mk', hk', he'⟩
    · cases h1
    have e1 : x.1 = k := by omega
    have e2 : y.1 = k' := by omega
    rw [e1, e2] at hne ⊢
    exact hN.2.2 k k' _ _ _ _ _ _ _ _ hk hk' rfl rfl hne
  · unfold left
    exact Nat.le_trans List.countP_le_length (by simp)
  · refine (Sees.start L a (fun _ => 0)).congr (fun j _ => ?_) (fun _ _ _ => rfl)
    simp only [Array.getD]
    split <;> simp
  · refine ⟨hc, fun j o mk cs t hj hl => ?_, fun i j x y mx cx tx my cy ty hi hj h1 _ => ?_⟩
    · simp only [Array.getD] at hl
      split at hl <;> simp at hl
    · simp only [Array.getD] at h1
      split at h1 <;> simp at h1
end
end Go.Proofs.Ytcjncidahjneaaa

namespace Go.Proofs.Ytcjncidahjneaaa
open Go.RowKit
/-- What is listed where these are left. -/
def lst (n : Nat) (R : List Nat) : Array Bool := ((List.range n).map fun i => !R.contains i).toArray
section
variable {P : Program} {ops : Array Oper} {Q : Exit → Act → World → Prop} {R : List Nat} {a : Act} {w : World} {o : Oper}
end
end Go.Proofs.Ytcjncidahjneaaa

namespace Go.Proofs.Ytcjncidahjneaaa
open Go.RowKit
attribute [local irreducible] wpList wpListIn
section
variable {P : Program} {ops : Array Oper} {W : List Oper → Act → World → Prop} {o : Oper} {rest : List Oper} {a : Act} {w : World} {v : Value} {B : Nat} {H : World → List Blk → Prop} {L : List Blk}
end
end Go.Proofs.Ytcjncidahjneaaa

namespace Go.Proofs.Ytcjncidahjneaaa
open Go.ChangeShapes Go.WideShapes Go.ChangeAt Go.RowKit
attribute [local irreducible] wpList wpListIn Oper.quietAt wpM
def u64W (n : Int) : Nat := (n % 18446744073709551616).toNat
/-- An own slice of bytes. -/
def BL (l : List UInt8) (sv : Value) (Lr : List Blk) : Prop := (sv = .slice none 0 0 ∧ l = [] ∧ Lr = []) ∨
  ∃ g c sp, sv = .slice (some ⟨g, 0, none⟩) l.length c ∧ l.length ≤ c ∧ c ≤ maxLen ∧ sp.length = c - l.length ∧ Lr = [(g, (l.map bv ++ sp).toArray, 5)]
def OwnB (B : Nat) (w : World) (sv : Value) (l : List UInt8) : Prop := (sv = .slice none 0 0 ∧ l = []) ∨
  ∃ g c sp, sv = .slice (some ⟨g, 0, none⟩) l.length c ∧ l.length ≤ c ∧ c ≤ maxLen ∧ sp.length = c - l.length ∧ B ≤ g ∧ blk w g = some (.cells (l.map bv ++ sp).toArray 5 (0, 0))
theorem BL.slice {l : List UInt8} {sv : Value} {Lr : List Blk} (h : BL l sv Lr) : ∃ p c, sv = .slice p l.length c := by
  rcases h with ⟨rfl, rfl, _⟩ | ⟨g, c, sp, rfl, _⟩
  · exact ⟨_, _, rfl⟩
  · exact ⟨_, _, rfl⟩
theorem OwnB.slice {B : Nat} {w : World} {l : List UInt8} {sv : Value} (h : OwnB B w sv l) : ∃ p c, sv = .slice p l.length c := by
  rcases h with ⟨rfl, rfl⟩ | ⟨g, c, sp, rfl, _⟩
  · exact ⟨_, _, rfl⟩
  · exact ⟨_, _, rfl⟩
theorem BL.own {w0 w : World} {L Lr : List Blk} {sv : Value} {l : List UInt8} (h : BL l sv Lr) (hS : St w0 w L) (hm : ∀ x ∈ Lr, x ∈ L) : OwnB w0.heap.size w sv l := by
  rcases h with ⟨rfl, rfl, rfl⟩ | ⟨g, c, sp, rfl, h1, h2, h3, rfl⟩
  · exact .inl ⟨rfl, rfl⟩
  · have := hS.2.1 _ (hm _ (List.mem_cons_self ..))
    exact .inr ⟨g, c, sp, rfl, h1, h2, h3, this.1, this.2⟩
end Go.Proofs.Ytcjncidahjneaaa

namespace Go.Proofs.Ytcjncidahjneaaa
open Go.ChangeShapes Go.WideShapes Go.ChangeAt Go.RowKit
attribute [local irreducible] wpList wpListIn Oper.quietAt wpM
end Go.Proofs.Ytcjncidahjneaaa

namespace Go.Proofs.Ytcjncidahjneaaa
open Go.ChangeShapes Go.WideShapes Go.ChangeAt Go.RowKit
attribute [local irreducible] wpList wpListIn Oper.quietAt wpM
end Go.Proofs.Ytcjncidahjneaaa

namespace Go.Proofs.Ytcjncidahjneaaa
open Go.ChangeShapes Go.WideShapes Go.ChangeAt Go.RowKit
attribute [local irreducible] wpList wpListIn Oper.quietAt wpM
end Go.Proofs.Ytcjncidahjneaaa
