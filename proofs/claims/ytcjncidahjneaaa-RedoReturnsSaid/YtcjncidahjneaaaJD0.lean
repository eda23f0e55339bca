/-
  Laws that the claims of this seat use, of several texts in one: Perm, AnyW, ResvG, Wd, Wp, Wp1, Wn. No condition of their own.
-/
import Derived.Lib.AppendZerosOnto
import Derived.Lib.Overlaps
import Derived.Laws.Externs
import Derived.Test.YtcjncidahjneaaaJC1

namespace Go.Proofs.Ytcjncidahjneaaa
open Go.RowKit
def nthL {α : Type} : List α → Nat → Option α
  | [], _ => none
  | a :: _, 0 => some a
  | _ :: l, n + 1 => nthL l n
theorem nthL_eq {α : Type} : ∀ (l : List α) (n : Nat), nthL l n = l[n]?
  | [], n => by simp [nthL]
  | a :: l, 0 => by simp [nthL]
  | a :: l, n + 1 => by simp [nthL, nthL_eq l n]
/-- Where a number stands. -/
def posL : List Nat → Nat → Nat
  | [], _ => 0
  | y :: l, x => if y = x then 0 else posL l x + 1
def reE (s : List Nat) (e : Edge) : Edge := ⟨posL s e.on, e.ground⟩
def reG (s : List Nat) : Option (Nat × Bool) → Option (Nat × Bool)
  | none => none
  | some (j, b) => some (posL s j, b)
def reO (s : List Nat) (o : Oper) : Oper := ⟨o.dst, o.op, o.type, o.pos, (o.after.toList.map (reE s)).toArray, reG s o.guard⟩
def orD : Option Oper → Oper
  | some o => o
  | none => default
def permL (s : List Nat) (l : List Oper) : List Oper := s.map fun i => reO s (orD (nthL l i))
def permOK (s : List Nat) (l : List Oper) : Bool :=
  (List.range l.length).all (fun i => decide (posL s i < l.length) && nthL s (posL s i) == some i) &&
  (List.range l.length).all (fun k => match nthL s k with | some i => decide (i < l.length) && posL s i == k | none => false) && s.length == l.length &&
  l.all (fun o => o.after.toList.all (fun e => decide (e.on < l.length)) && (match o.guard with | some g => decide (g.1 < l.length) | none => true))
section
variable {P : Program} {md : Region.Mode} {Q : Exit → Act → World → Prop} {s : List Nat} {l : List Oper}
theorem perm_1 (h : permOK s l = true) {i : Nat} (hi : i < l.length) : posL s i < l.length ∧ s[posL s i]? = some i := by
  simp only [permOK, Bool.and_eq_true] at h
  have := List.all_eq_true.1 h.1.1.1 i (List.mem_range.2 hi)
  simp only [Bool.and_eq_true, decide_eq_true_eq, beq_iff_eq, nthL_eq] at this
  exact this
theorem perm_2 (h : permOK s l = true) {k : Nat} (hk : k < l.length) : ∃ i, s[k]? = some i ∧ i < l.length ∧ posL s i = k := by
  simp only [permOK, Bool.and_eq_true] at h
  have := List.all_eq_true.1 h.1.1.2 k (List.mem_range.2 hk)
  rw [nthL_eq] at this
  split at this
  · next i hi =>
    simp only [Bool.and_eq_true, decide_eq_true_eq, beq_iff_eq] at this
    exact ⟨i, hi, this⟩
  · cases this
theorem perm_len (h : permOK s l = true) : (permL s l).length = l.length := by
  simp only [permOK, Bool.and_eq_true, beq_iff_eq] at h
  unfold permL
  rw [List.length_map, h.1.2]
theorem perm_on (h : permOK s l = true) {i : Nat} {o : Oper} (hi : l[i]? = some o) {e : Edge} (he : e ∈ o.after) : e.on < l.length := by
  simp only [permOK, Bool.and_eq_true] at h
  have := List.all_eq_true.1 h.2 o (List.mem_of_getElem? hi)
  simp only [Bool.and_eq_true] at this
  have := List.all_eq_true.1 this.1 e (by simpa using he)
  simpa using this
theorem perm_guard (h : permOK s l = true) {i : Nat} {o : Oper} (hi : l[i]? = some o) {g : Nat × Bool} (hg : o.guard = some g) : g.1 < l.length := by
  simp only [permOK, Bool.and_eq_true] at h
  have := List.all_eq_true.1 h.2 o (List.mem_of_getElem? hi)
  simp only [Bool.and_eq_true, hg] at this
  simpa using this.2
theorem perm_at (h : permOK s l = true) {i : Nat} {o : Oper} (hi : l[i]? = some o) : (permL s l)[posL s i]? = some (reO s o) := by
  have hil := (List.getElem?_eq_some_iff.1 hi).1
  unfold permL
  rw [List.getElem?_map, (perm_1 h hil).2]
  simp only [Option.map_some, nthL_eq, hi, orD]
theorem perm_yielded (h : permOK s l = true) (tmps : Array Value) {j : Nat} (hj : j < l.length) : yielded (permL s l).toArray tmps (posL s j) = yielded l.toArray tmps j := by
  have hg : l[j]? = some l[j] := List.getElem?_eq_getElem hj
  have h1 := perm_at h hg
  unfold yielded
  rw [List.getElem?_toArray, List.getElem?_toArray, h1, hg]
  rfl
theorem perm_wanted (h : permOK s l = true) {i : Nat} {o : Oper} (hi : l[i]? = some o) (tmps : Array Value) : Region.wanted (reO s o) (yielded (permL s l).toArray tmps) = Region.wanted o (yielded l.toArray tmps) := by
  unfold Region.wanted
  cases hg : o.guard with
  | none => simp only [reO, hg, reG]
  | some g =>
    obtain ⟨j, b⟩ := g
    have := perm_yielded h tmps (perm_guard h hi hg)
    simp only [reO, hg, reG] at this ⊢
    rw [this]
theorem perm_wp (o : Oper) (a : Act) (w : World) (K : Act → World → Prop) : Oper.wp P (reO s o) a w K Q ↔ Oper.wp P o a w K Q := Iff.rfl
theorem perm_ready (h : permOK s l = true) {x y : Array Bool} (hx : x.size = l.length) (hy : y.size = l.length) (hxy : ∀ i, i < l.length → y.getD (posL s i) true = x.getD i true) {i : Nat} (hil : i < l.length) :
    posL s i ∈ Region.ready md (permL s l).toArray y ↔ i ∈ Region.ready md l.toArray x := by
  have hg : l[i]? = some l[i] := List.getElem?_eq_getElem hil
  have hp := perm_at h hg
  rw [mem_ready, mem_ready, hxy i hil]
  refine and_congr Iff.rfl ⟨?_, ?_⟩
  · rintro ⟨o, ho, hall⟩
    rw [List.getElem?_toArray, hp] at ho
    obtain rfl := Option.some.inj ho
    refine ⟨l[i], by rw [List.getElem?_toArray]; exact hg, fun e he hb => ?_⟩
    have hon := perm_on h hg he
    have h1 := hall (reE s e) (by simp only [reO, List.mem_toArray]; exact List.mem_map.2 ⟨e, by simpa using he, rfl⟩) hb
    have hp1 := (perm_1 h hon).1
    have h1 : y.getD (posL s e.on) false = true := h1
    rw [getD_flip (by omega) false true] at h1 ⊢
    rw [← hxy _ hon]; exact h1
  · rintro ⟨o, ho, hall⟩
    rw [List.getElem?_toArray, hg] at ho
    obtain rfl := Option.some.inj ho
    refine ⟨reO s l[i], by rw [List.getElem?_toArray]; exact hp, fun e he hb => ?_⟩
    simp only [reO, List.mem_toArray] at he
    obtain ⟨e0, he0, rfl⟩ := List.mem_map.1 he
    have he1 : e0 ∈ l[i].after := by simpa using he0
    have hon := perm_on h hg he1
    have h1 := hall e0 he1 hb
    have hp1 := (perm_1 h hon).1
    show y.getD (posL s e0.on) false = true
    rw [getD_flip (by omega) false true] at h1 ⊢
    rw [hxy _ hon]; exact h1
theorem any_perm (h : permOK s l = true) : ∀ (fuel : Nat) (x y : Array Bool) (a : Act) (w : World), x.size = l.length → y.size = l.length → (∀ i, i < l.length → y.getD (posL s i) true = x.getD i true) →
    wpAny P md (permL s l).toArray Q fuel y a w → wpAny P md l.toArray Q fuel x a w := by
  intro fuel
  have hnil : ∀ (x y : Array Bool), x.size = l.length → y.size = l.length → (∀ i, i < l.length → y.getD (posL s i) true = x.getD i true) → (Region.ready md (permL s l).toArray y = [] ↔ Region.ready md l.toArray x = []) := by
    intro x y hx hy hxy
    constructor
    · intro h0
      refine List.eq_nil_iff_forall_not_mem.2 fun i hi => ?_
      obtain ⟨_, o, ho, _⟩ := mem_ready.1 hi
      have hil : i < l.length := by simpa using (Array.getElem?_eq_some_iff.1 ho).1
      have := (perm_ready (md := md) h hx hy hxy hil).2 hi
      rw [h0] at this; cases this
    · intro h0
      refine List.eq_nil_iff_forall_not_mem.2 fun k hk => ?_
      obtain ⟨_, o, ho, _⟩ := mem_ready.1 hk
      have hkl : k < l.length := by have := (Array.getElem?_eq_some_iff.1 ho).1; rw [List.size_toArray, perm_len h] at this; exact this
      obtain ⟨i, hi, hil, rfl⟩ := perm_2 h hkl
      have := (perm_ready (md := md) h hx hy hxy hil).1 hk
      rw [h0] at this; cases this
  induction fuel with
  | zero =>
    intro x y a w hx hy hxy hA
    exact ⟨(hnil x y hx hy hxy).1 hA.1, hA.2⟩
  | succ fuel ih =>
    intro x y a w hx hy hxy hA
    refine ⟨fun h0 => hA.1 ((hnil x y hx hy hxy).2 h0), fun i hi => ?_⟩
    obtain ⟨_, o, ho, _⟩ := mem_ready.1 hi
    have hil : i < l.length := by simpa using (Array.getElem?_eq_some_iff.1 ho).1
    have ho2 : l[i]? = some o := by simpa using ho
    have h1 := hA.2 (posL s i) ((perm_ready (md := md) h hx hy hxy hil).2 hi)
    have hp := perm_at h ho2
    have hK : ∀ a' w', wpAny P md (permL s l).toArray Q fuel (y.setIfInBounds (posL s i) true) a' w' → wpAny P md l.toArray Q fuel (x.setIfInBounds i true) a' w' := fun a' w' hh => by
      refine ih _ _ a' w' (by simpa using hx) (by simpa using hy) (fun j hj => ?_) hh
      have hj1 := perm_1 h hj
      have hi1 := perm_1 h hil
      by_cases hji : j = i
      · subst hji
        simp [Array.getD, hx, hy, hj, hj1.1]
      · have hne : posL s i ≠ posL s j := fun e => hji (by
          have := hj1.2
          rw [← e, hi1.2] at this
          exact (Option.some.inj this).symm)
        rw [getD_set_ne true hne, getD_set_ne true (Ne.symm hji)]
        exact hxy j hj
    unfold wpOp at h1 ⊢
    rw [List.getElem?_toArray, hp] at h1
    rw [List.getElem?_toArray, ho2]
    simp only at h1 ⊢
    rw [perm_wanted h ho2] at h1
    split
    · next hw =>
      rw [if_pos hw] at h1
      exact h1.imp (fun h2 => Oper.wp_mono hK ((perm_wp o a w _).1 h2)) id
    · next hw =>
      rw [if_neg hw] at h1
      exact hK _ _ h1
theorem any_mono {n : Nat} {a : Act} {w : World} (hB : frontOK md (l.take n) (l.drop n) = true)
    (h : wpM P md l.toArray w (fun a' F => ∀ b w', Cls w w' → (∀ x ∈ F, w.heap.size ≤ b x.1 ∧ blk w' (b x.1) = some (.cells x.2.1 x.2.2 (0, 0))) → (∀ x ∈ F, ∀ y ∈ F, x.1 ≠ y.1 → b x.1 ≠ b y.1) → wpList P l.toArray Q (l.drop n) (a' b) w') (l.take n) 0 (fun _ => a) []) :
    wpAny P md l.toArray Q l.length (Array.replicate l.length false) a { w with drawn := w.drawn + 1 } := by
  have hh : l.take n ++ l.drop n = l := List.take_append_drop n l
  generalize l.take n = A at *
  generalize l.drop n = T at *
  subst hh
  obtain ⟨L, hL, hstep, hQ⟩ := wpM_out A 0 _ [] h
  have hc : Cls w { w with drawn := w.drawn + 1 } := ⟨rfl, rfl, rfl, Nat.le_refl _, fun _ _ => rfl⟩
  refine any_front hB hL hstep (fun b w' hN => hQ b w' hN.1 (fun x hx => ?_) (fun x hx y hy hne => ?_)) _ _ (fun _ => 0) a _ (by simp) (fun j o _ hl => by simp only [Array.getD] at hl; split at hl <;> simp at hl) (fun j _ hj => by simp only [List.length_append] at hj; simp [Array.getD]; omega) ?_ ?_ ?_
  · rcases mem_factsT _ _ _ hx with h1 | ⟨k, o, mk, hk, he⟩
    · cases h1
    · have : x.1 = k := by omega
      rw [this]
      exact hN.2.1 k o mk _ _ hk rfl
  · rcases mem_factsT _ _ _ hx with h1 | ⟨k, o, mk, hk, he⟩
    · cases h1
    rcases mem_factsT _ _ _ hy with h1 | ⟨k', o', mk', hk', he'⟩
    · cases h1
    have e1 : x.1 = k := by omega
    have e2 : y.1 = k' := by omega
    rw [e1, e2] at hne ⊢
    exact hN.2.2 k k' _ _ _ _ _ _ _ _ hk hk' rfl rfl hne
  · unfold left
    exact Nat.le_trans List.countP_le_length (by simp)
  · refine (Sees.start L a (fun _ => 0)).congr (fun j _ => ?_) (fun _ _ _ => rfl)
    simp only [Array.getD]
    split <;> simp
  · refine ⟨hc, fun j o mk cs t hj hl => ?_, fun i j x y mx cx tx my cy ty hi hj h1 _ => ?_⟩
    · simp only [Array.getD] at hl
      split at hl <;> simp at hl
    · simp only [Array.getD] at h1
      split at h1 <;> simp at h1
end
end Go.Proofs.Ytcjncidahjneaaa

namespace Go.Proofs.Ytcjncidahjneaaa
open Go.RowKit
/-- What is listed where these are left. -/
def lst (n : Nat) (R : List Nat) : Array Bool := ((List.range n).map fun i => !R.contains i).toArray
/-- Operations that look at no memory and call nothing. -/
def pureKind (o : Oper) : Bool := match o.op with
  | .move _ | .assign _ | .pick .. | .extract .. | .slice .. | .fieldAddr .. | .field .. | .indexAddr .. | .binOp .. | .unOp .. | .convert .. | .makeInterface .. => true
  | _ => false
/-- This one may be taken ahead of all others that are left. -/
def pullOK (ops : Array Oper) (R : List Nat) (i : Nat) : Bool :=
  let R' := R.erase i
  Region.noSelect ops && (Region.ready .any ops (lst ops.size R)).contains i && (lst ops.size R).setIfInBounds i true == lst ops.size R' && R.length == R'.length + 1 &&
  (match ops[i]? with
  | some oi => pureKind oi && R'.all (fun j => match ops[j]? with
    | some oj => oj.after.toList.any (fun e => Region.binds .any e && e.on == i) || oi.apart ops oj
    | none => true) && (List.range ops.size).all (fun j => j == i || R'.contains j || (lst ops.size R).getD j true)
  | none => false)
/-- This one is the next. -/
def turnOK (ops : Array Oper) (R : List Nat) (i : Nat) : Bool :=
  let R' := R.erase i
  Region.ready .any ops (lst ops.size R) == [i] && (lst ops.size R).setIfInBounds i true == lst ops.size R' && R.length == R'.length + 1
/-- One of these two is the next. -/
def turn2OK (ops : Array Oper) (R : List Nat) (i j : Nat) : Bool :=
  let R1 := R.erase i
  let R2 := R.erase j
  Region.ready .any ops (lst ops.size R) == [i, j] && (lst ops.size R).setIfInBounds i true == lst ops.size R1 && (lst ops.size R).setIfInBounds j true == lst ops.size R2 && R.length == R1.length + 1 && R.length == R2.length + 1
def WA (P : Program) (ops : Array Oper) (Q : Exit → Act → World → Prop) (R : List Nat) (a : Act) (w : World) : Prop := wpAny P .any ops Q R.length (lst ops.size R) a w
section
variable {P : Program} {ops : Array Oper} {Q : Exit → Act → World → Prop} {R : List Nat} {a : Act} {w : World} {o : Oper}
theorem nth_at {i : Nat} (h : nthL ops.toList i = some o) : ops[i]? = some o := by
  rw [nthL_eq] at h
  simpa using h
theorem any_start {id : Nat} (R : List Nat) (hm : P.follows .mixedOrders = true) (hR : (lst ops.size R == Array.replicate ops.size false && R.length == ops.size) = true) (h : ∀ w', Cls w w' → WA P ops Q R a w') : (Code.region id ops true).wp P Q a w := by
  simp only [Bool.and_eq_true, beq_iff_eq] at hR
  refine wp_region_any hm ?_
  have := h { w with drawn := w.drawn + 1 } ⟨rfl, rfl, rfl, Nat.le_refl _, fun _ _ => rfl⟩
  unfold WA at this
  rwa [hR.1, hR.2] at this
theorem any_done (hR : (R.isEmpty && Region.ready .any ops (lst ops.size R) == []) = true) (h : wpList P ops Q [] a w) : WA P ops Q R a w := by
  simp only [Bool.and_eq_true, beq_iff_eq, List.isEmpty_iff] at hR
  obtain ⟨rfl, hR⟩ := hR
  exact ⟨hR, h⟩
theorem pull_pure {v : Value} (hpk : pureKind o = true) (hw : Region.wanted o (yielded ops a.tmps) = true) (hq : ∀ (C : World → Prop) w', o.quietAt P a C w' v) : Yields P ops o v a := by
  refine .inl ⟨hw, fun w' => ?_⟩
  have h1 := hq (fun _ => True) w'
  unfold Oper.quietAt at h1
  have hne : ∀ f args w2, (execOp a.eval o).run P w' ≠ .ok (.enter f args) w2 := by
    intro f args w2 he
    unfold pureKind at hpk
    unfold execOp at he
    split at hpk <;> first | (cases hpk; done) | skip
    all_goals
      next hop =>
      rw [hop] at he
      simp only [Sem.run_bind, Sem.run_pure] at he
      first
        | (cases he; done)
        | (revert he; generalize Sem.run P _ w' = r; cases r <;> (intro he; simp [Result.andThen] at he; done))
        | (revert he; generalize Sem.run P _ w' = r; cases r <;> intro he <;> simp only [Result.andThen] at he <;> first | (cases he; done) | (revert he; generalize Sem.run P _ _ = r2; cases r2 <;> (intro he; simp at he; done)))
  have hns2 : ∀ w2, (execOp a.eval o).run P w' = .ok .skip w2 → False := by
    intro w2 he
    unfold pureKind at hpk
    unfold execOp at he
    split at hpk <;> first | (cases hpk; done) | skip
    all_goals
      next hop =>
      rw [hop] at he
      simp only [Sem.run_bind, Sem.run_pure] at he
      first
        | (cases he; done)
        | (revert he; generalize Sem.run P _ w' = r; cases r <;> (intro he; simp [Result.andThen] at he; done))
        | (revert he; generalize Sem.run P _ w' = r; cases r <;> intro he <;> simp only [Result.andThen] at he <;> first | (cases he; done) | (revert he; generalize Sem.run P _ _ = r2; cases r2 <;> (intro he; simp at he; done)))
  generalize hr : (execOp a.eval o).run P w' = r at *
  cases r with
  | halt x w2 => exact h1.elim
  | ok n w2 =>
    cases n <;> simp only [Oper.quietUpon] at h1
    case value u => obtain ⟨rfl, rfl⟩ := h1; rfl
    case skip => exact (hns2 _ rfl).elim
    case enter f args => exact absurd rfl (hne f args w2)
theorem any_first {v : Value} (i : Nat) (hok : pullOK ops R i = true) (hi' : nthL ops.toList i = some o) (hQ : ∀ (u : Value) c a w, Q (.panic c) (a.put o.dst u) w → Q (.panic c) a w)
    (hy : pureKind o = true → Yields P ops o v a) (h : WA P ops Q (R.erase i) (a.put o.dst v) w) : WA P ops Q R a w := by
  have hi := nth_at hi'
  unfold pullOK at hok
  rw [hi] at hok
  simp only [Bool.and_eq_true, beq_iff_eq] at hok
  obtain ⟨⟨⟨⟨hns, hrd⟩, hset⟩, hlen⟩, ⟨hpk, hall⟩, hcov⟩ := hok
  replace hy := hy hpk
  unfold WA at h ⊢
  rw [hlen]
  refine wpAny_first hi (Region.noSelect_spec hns) (hQ v) _ _ _ _ ?_ (List.contains_iff_mem.1 hrd) hy (by rw [hset]; exact h)
  intro j oj hoj hji hun hno
  have hjl : j < ops.size := (Array.getElem?_eq_some_iff.1 hoj).1
  have h1 := List.all_eq_true.1 hcov j (List.mem_range.2 hjl)
  simp only [Bool.or_eq_true, beq_iff_eq] at h1
  rcases h1 with (h1 | h1) | h1
  · exact absurd h1 hji
  · have h2 := List.all_eq_true.1 hall j (List.contains_iff_mem.1 h1)
    rw [hoj] at h2
    simp only [Bool.or_eq_true] at h2
    rcases h2 with h2 | h2
    · obtain ⟨e, he, hb⟩ := List.any_eq_true.1 h2
      simp only [Bool.and_eq_true, beq_iff_eq] at hb
      exact absurd hb.2 (hno e (by simpa using he) hb.1)
    · exact h2
  · rw [h1] at hun; cases hun
theorem any_pull (i : Nat) (hok : pullOK ops R i = true) (hi' : nthL ops.toList i = some o) (hw : Region.wanted o (yielded ops a.tmps) = true) (hQ : ∀ (u : Value) c a w, Q (.panic c) (a.put o.dst u) w → Q (.panic c) a w)
    (h : ∃ v, (∀ (C : World → Prop) w', o.quietAt P a C w' v) ∧ WA P ops Q (R.erase i) (a.put o.dst v) w) : WA P ops Q R a w := by
  obtain ⟨v, hq, h⟩ := h
  exact any_first i hok hi' hQ (fun hpk => pull_pure hpk hw hq) h
theorem any_pullS (i : Nat) (hok : pullOK ops R i = true) (hi' : nthL ops.toList i = some o) (hw : Region.wanted o (yielded ops a.tmps) = false) (hQ : ∀ (u : Value) c a w, Q (.panic c) (a.put o.dst u) w → Q (.panic c) a w)
    (h : WA P ops Q (R.erase i) (a.put o.dst undef) w) : WA P ops Q R a w := any_first i hok hi' hQ (fun _ => .inr ⟨hw, rfl⟩) h
theorem wa_put {d : Option Nat} {v : Value} {a2 : Act} (h : WA P ops Q R a2 w) (hput : a.put d v = a2 := by (conv => lhs; simp only [Act.put, List.setIfInBounds_toArray, List.set_cons_zero, List.set_cons_succ]); first | done | rfl) : WA P ops Q R (a.put d v) w := by rw [hput]; exact h
theorem lets_then {K : Act → World → Prop} (h : LetsOut (Exit.then K Q)) : LetsOut Q := by
  obtain ⟨a, w, h⟩ := h
  exact ⟨a, w, h⟩
theorem wp_thenK {K : Act → World → Prop} (h : o.wp P a w (wpList P ops (Exit.then K Q) []) (Exit.then K Q)) : o.wp P a w K Q := by
  unfold Oper.wp at h ⊢
  generalize (execOp a.eval o).run P w = r at *
  cases r with
  | ok n w' =>
    cases n <;> simp only [Oper.upon] at h ⊢
    case enter f args =>
      refine Calls.mono h fun e w'' he => ?_
      cases e with
      | returned v => exact he
      | panicked c => exact he
      | outgrown => exact lets_then he
    all_goals exact h
  | halt x w' => cases x <;> simp only [Oper.upon] at h ⊢ <;> exact h
theorem any_op {K : Act → World → Prop} {i : Nat} (hi' : nthL ops.toList i = some o) (h : wpList P ops (Exit.then K Q) [o] a w) : wpOp P ops Q i K a w := by
  have hi := nth_at hi'
  unfold wpOp
  rw [hi]
  unfold wpList at h
  simp only at h ⊢
  split
  · next hw =>
    rw [if_pos hw] at h
    exact h.imp wp_thenK fun h2 => ⟨h2.1, lets_then h2.2⟩
  · next hw =>
    rw [if_neg hw] at h
    exact h
theorem any_turn (i : Nat) (hok : turnOK ops R i = true) (hi' : nthL ops.toList i = some o) (h : wpList P ops (Exit.then (WA P ops Q (R.erase i)) Q) [o] a w) : WA P ops Q R a w := by
  unfold turnOK at hok
  simp only [Bool.and_eq_true, beq_iff_eq] at hok
  obtain ⟨⟨hrd, hset⟩, hlen⟩ := hok
  unfold WA at h ⊢
  rw [hlen]
  refine ⟨fun h0 => (by rw [hrd] at h0; cases h0), fun k hk => ?_⟩
  rw [hrd, List.mem_singleton] at hk
  subst hk
  rw [hset]
  exact any_op hi' h
theorem any_turn2 {o2 : Oper} (i j : Nat) (hok : turn2OK ops R i j = true) (hi' : nthL ops.toList i = some o) (hj' : nthL ops.toList j = some o2) (h1 : wpList P ops (Exit.then (WA P ops Q (R.erase i)) Q) [o] a w) (h2 : wpList P ops (Exit.then (WA P ops Q (R.erase j)) Q) [o2] a w) : WA P ops Q R a w := by
  unfold turn2OK at hok
  simp only [Bool.and_eq_true, beq_iff_eq] at hok
  obtain ⟨⟨⟨⟨hrd, hset1⟩, hset2⟩, hlen1⟩, hlen2⟩ := hok
  unfold WA at h1 h2 ⊢
  rw [hlen1]
  rw [← Nat.succ_inj.1 (hlen1.symm.trans hlen2)] at h2
  refine ⟨fun h0 => (by rw [hrd] at h0; cases h0), fun k hk => ?_⟩
  rw [hrd] at hk
  rcases List.mem_cons.1 hk with rfl | hk
  · rw [hset1]
    exact any_op hi' h1
  · rw [List.mem_singleton] at hk
    subst hk
    rw [hset2]
    exact any_op hj' h2
end
end Go.Proofs.Ytcjncidahjneaaa

namespace Go.Proofs.Ytcjncidahjneaaa
open Go.RowKit
attribute [local irreducible] wpList wpListIn
section
variable {P : Program} {ops : Array Oper} {W : List Oper → Act → World → Prop} {o : Oper} {rest : List Oper} {a : Act} {w : World} {v : Value} {B : Nat} {H : World → List Blk → Prop} {L : List Blk}
theorem r_sliceE {t : TypeId} {x : Operand} {lo hi : Option Operand} {b off n c m : Nat} {l h : Int} (hop : o.op = .slice t x lo hi none) (hx : evO a x = some (.slice (some ⟨b, off, none⟩) n c)) (hm : ElT P t m) (hl : bnd a 0 lo = some l) (hh : bnd a n hi = some h) (h0 : l = (c : Int) ∧ h = (c : Int)) : (execOp a.eval o).run P w = .ok (.value (.slice (some ⟨b, off, none⟩) 0 0)) w := by
  obtain ⟨e, hu, hs⟩ := elT_iff hm.is
  obtain ⟨rfl, rfl⟩ := h0
  unfold execOp; rw [hop]
  have hb := run_bounds (P := P) (w := w) (isS := true) (n := n) (c := c) hl hh ⟨by omega, by omega, by omega⟩
  simp only [Option.map_none]
  simp only [Bb hx, Instr.sliceAt, Instr.slice, Sem.run_bind, run_underlying hu, Result.andThen_ok, hb, run_sizeOf hs]
  simp
/-- append(x, make(k)...) that outgrows what x has: a new block; the elder one is kept. -/
theorem s_appendZG {x y : Operand} {t tn e size bytes b n c i k nk : Nat} {kq kn : IntKind} {cs : Array Value} {olds post : List Value} (hs : Stp P ops W) (hH : Own B H) (hS : H w L) (hw : Region.wanted o (yielded ops a.tmps) = true)
    (hop : o.op = .call { callee := .builtin .append, args := #[x, y], argTypes := #[t, tn] }) (hx : evO a x = some (.slice (some ⟨b, 0, none⟩) n c)) (hy : evO a y = some (.int kq (k : Int))) (hT : SlT P t e size bytes) (htn : IntT P tn kn)
    (hi : L[i]? = some (b, cs, e)) (hcs : cs.toList = olds ++ post) (ho : olds.length = n * size) (hk0 : 0 < k) (hg : c < n + k) (hmax : n + k ≤ 1000000 ∧ c ≤ n + k ∧ bytes ≤ 1000) (hnk : n + k = nk)
    (hk : ∀ (b' c' : Nat) (rest' : List Value) (w' : World), nk ≤ c' → c' ≤ maxLen → rest'.length = (c' - n) * size → H w' ((b', (olds ++ rest').toArray, e) :: L) → W rest (a.put o.dst (.slice (some ⟨b', 0, none⟩) nk c')) w') : W (o :: rest) a w := by
  subst hnk
  obtain ⟨ht, inf, zz, hie, hz, hsz, hby, hzs, hpos⟩ := elemB_iff hT.is
  have hd : Bp o = false := by unfold Bp; rw [hop]
  have hb := hH.blk i hS hi
  have hl := run_loadCells_list (P := P) w.drew ⟨b, 0, none⟩ olds (fun j u hu => by
    rw [addr_add, Nat.zero_add]
    refine (cell_of_row w b j cs e (0, 0) hb).trans ?_
    rw [← Array.getElem?_toList, hcs, List.getElem?_append_left (List.getElem?_eq_some_iff.1 hu).1]; exact hu)
  rw [ho] at hl
  have hold : (Builtin.firstCells inf.size n (.slice (some ⟨b, 0, none⟩) n c)).run P w.drew = .ok olds.toArray w.drew := by
    simp [Builtin.firstCells, hsz, hl]
  have hnx : Builtin.nextslicecap (n + k) c ≤ 2 * (n + k) := nextslicecap_le hg
  have hr := Lib.run_append_grow_zeros (P := P) w t tn o.type e inf zz kq kn ht htn.is hie hz (some ⟨b, 0, none⟩) n c olds hold k hk0 (by omega) hg (by omega) (by rw [hby]; have := Nat.mul_le_mul (show k ≤ 1000000 by omega) hmax.2.2; omega) (by rw [hby]; have := Nat.mul_le_mul (show Builtin.nextslicecap (n + k) c ≤ 2000000 by omega) hmax.2.2; omega)
  have hcap := grownCap_ge w (n + k) c e
  have hcm := grownCap_le_maxLen w (n + k) c e (by unfold maxLen; omega)
  generalize grownCap w (n + k) c e = c' at *
  have hS1 : H w.drew L := hH.call hS ⟨rfl, rfl, rfl, Nat.le_refl _, fun _ _ => rfl⟩
  have hcell : olds.toArray ++ Builtin.zeroCells zz.cells k ++ Builtin.zeroCells zz.cells (c' - (n + k)) = (olds ++ ((Builtin.zeroCells zz.cells k).toList ++ (Builtin.zeroCells zz.cells (c' - (n + k))).toList)).toArray := by
    apply Array.ext'; simp
  rw [hcell] at hr
  have e1 : #[x, y].map a.eval = #[.slice (some ⟨b, 0, none⟩) n c, .int kq (k : Int)] := by simp [Bb hx, Bb hy]
  have hlen : ((Builtin.zeroCells zz.cells k).toList ++ (Builtin.zeroCells zz.cells (c' - (n + k))).toList).length = (c' - n) * size := by
    rw [List.length_append, Array.length_toList, Array.length_toList, size_zeroCells, size_zeroCells, hzs, ← Nat.add_mul]
    congr 1
    omega
  generalize (Builtin.zeroCells zz.cells k).toList ++ (Builtin.zeroCells zz.cells (c' - (n + k))).toList = R2 at *
  refine hs.go hw hd ?_ (hk w.heap.size c' R2 (w.drew.alloc (.cells (olds ++ R2).toArray e)) hcap hcm hlen (hH.alloc _ e hS1))
  unfold execOp; rw [hop]
  simp only [resolve, Sem.run_bind, Sem.run_pure, Result.andThen_ok, invoke, builtin, e1, hr]
end
end Go.Proofs.Ytcjncidahjneaaa

namespace Go.Proofs.Ytcjncidahjneaaa
open Go.ChangeShapes Go.WideShapes Go.ChangeAt Go.RowKit
attribute [local irreducible] wpList wpListIn Oper.quietAt wpM
def u64W (n : Int) : Nat := (n % 18446744073709551616).toNat
/-- An own slice of bytes. -/
def BL (l : List UInt8) (sv : Value) (Lr : List Blk) : Prop := (sv = .slice none 0 0 ∧ l = [] ∧ Lr = []) ∨
  ∃ g c sp, sv = .slice (some ⟨g, 0, none⟩) l.length c ∧ l.length ≤ c ∧ c ≤ maxLen ∧ sp.length = c - l.length ∧ Lr = [(g, (l.map bv ++ sp).toArray, 5)]
def OwnB (B : Nat) (w : World) (sv : Value) (l : List UInt8) : Prop := (sv = .slice none 0 0 ∧ l = []) ∨
  ∃ g c sp, sv = .slice (some ⟨g, 0, none⟩) l.length c ∧ l.length ≤ c ∧ c ≤ maxLen ∧ sp.length = c - l.length ∧ B ≤ g ∧ blk w g = some (.cells (l.map bv ++ sp).toArray 5 (0, 0))
theorem BL.slice {l : List UInt8} {sv : Value} {Lr : List Blk} (h : BL l sv Lr) : ∃ p c, sv = .slice p l.length c := by
  rcases h with ⟨rfl, rfl, _⟩ | ⟨g, c, sp, rfl, _⟩
  · exact ⟨_, _, rfl⟩
  · exact ⟨_, _, rfl⟩
theorem OwnB.slice {B : Nat} {w : World} {l : List UInt8} {sv : Value} (h : OwnB B w sv l) : ∃ p c, sv = .slice p l.length c := by
  rcases h with ⟨rfl, rfl⟩ | ⟨g, c, sp, rfl, _⟩
  · exact ⟨_, _, rfl⟩
  · exact ⟨_, _, rfl⟩
theorem OwnB.join {w0 w w' : World} {L : List Blk} {sv : Value} {l : List UInt8} (h : OwnB w.heap.size w' sv l) (hS : St w0 w L) (hB : Below w.heap.size w w') : ∃ Lr, BL l sv Lr ∧ St w0 w' (Lr ++ L) := by
  rcases h with ⟨rfl, rfl⟩ | ⟨g, c, sp, rfl, h1, h2, h3, h4, h5⟩
  · exact ⟨[], .inl ⟨rfl, rfl, rfl⟩, hS.call hB⟩
  · exact ⟨[_], .inr ⟨g, c, sp, rfl, h1, h2, h3, rfl⟩, Ab.new hS hB h4 h5⟩
theorem BL.own {w0 w : World} {L Lr : List Blk} {sv : Value} {l : List UInt8} (h : BL l sv Lr) (hS : St w0 w L) (hm : ∀ x ∈ Lr, x ∈ L) : OwnB w0.heap.size w sv l := by
  rcases h with ⟨rfl, rfl, rfl⟩ | ⟨g, c, sp, rfl, h1, h2, h3, rfl⟩
  · exact .inl ⟨rfl, rfl⟩
  · have := hS.2.1 _ (hm _ (List.mem_cons_self ..))
    exact .inr ⟨g, c, sp, rfl, h1, h2, h3, this.1, this.2⟩
theorem BL.inn {l : List UInt8} {sv : Value} {Lr L : List Blk} {W0 w : World} (h : BL l sv Lr) (hS : St W0 w L) (hm : ∀ x ∈ Lr, x ∈ L) : BytesAt w sv l := by
  rcases h with ⟨rfl, rfl, rfl⟩ | ⟨g, c, sp, rfl, h1, h2, h3, rfl⟩
  · exact ⟨none, 0, rfl, Nat.le_refl _, fun _ => rfl, fun h => absurd rfl h⟩
  · exact bytesAt_mid (pre := []) (off := 0) (hS.2.1 _ (hm _ (List.mem_cons_self ..))).2 rfl rfl rfl h1
theorem s_appB {ops : Array Oper} {Q : Exit → Act → World → Prop} {o : Oper} {rest : List Oper} {a : Act} {w W0 : World} {l : List UInt8} {sv : Value} {Lr L : List Blk} {z : UInt8} {nb : Nat} {x y : Operand}
    (hS : St W0 w ((nb, #[.int .u8 (z.toNat : Int)], 5) :: (Lr ++ L))) (hR : BL l sv Lr) (hm : l.length ≤ 100000)
    (hw : Region.wanted o (yielded ops a.tmps) = true) (hop : o.op = .call { callee := .builtin .append, args := #[x, y], argTypes := #[22, 22] }) (hx : evO a x = some sv) (hy : evO a y = some (.slice (some ⟨nb, 0, none⟩) 1 1))
    (hk : ∀ sv' Lr' w', BL (l ++ [z]) sv' Lr' → St W0 w' (Lr' ++ L) → wpList Try.prog ops Q rest (a.put o.dst sv') w') : wpList Try.prog ops Q (o :: rest) a w := by
  have hsrc : ∀ (w : World), blk w nb = some (.cells #[.int .u8 (z.toNat : Int)] 5 (0, 0)) → ∀ j v, ([z].map bv)[j]? = some v → w.cell? ((⟨nb, 0, none⟩ : Addr).add j) = some v := fun w hb => src_blk hb (fun j v h => by rw [Nat.zero_add]; exact h)
  rcases hR with ⟨rfl, rfl, rfl⟩ | ⟨g, c, sp, rfl, h1, h2, h3, rfl⟩
  · simp only [List.nil_append] at hS
    refine s_append0 Aa Ab hS hw hop hx hy (by infer_instance) (xs := [z].map bv) (hsrc _ (hS.blk 0 rfl)) (by rfl) (by unfold maxLen; omega) ?_
    intro by2 cy2 S2 w' hq1 hq2 hq3 hS2
    exact hk _ _ _ (.inr ⟨by2, cy2, S2, rfl, hq1, hq2, by rw [hq3, Nat.mul_one]; rfl, rfl⟩) (hS2.erase 1)
  · simp only [List.cons_append, List.nil_append] at hS
    refine s_append Aa Ab hS hw hop hx hy (by infer_instance) (by exact at_ 1 rfl) (olds := l.map bv) (spare := sp) (by rfl) (by rw [List.length_map, Nat.mul_one]) h1 (by rw [h3, Nat.mul_one]) (xs := [z].map bv) (hsrc _ (hS.blk 0 rfl)) (by rfl) (bv_one _) (by unfold maxLen at h2 ⊢; omega) rfl ?_
    intro by2 cy2 S2 w' hq1 hq2 hq3 hS2
    have e : l.length + 1 = (l ++ [z]).length := by rw [List.length_append]; rfl
    refine hk _ [_] _ (.inr ⟨by2, cy2, S2, by rw [e], by rw [← e]; exact hq1, hq2, by rw [← e, hq3, Nat.mul_one], rfl⟩) ?_
    rw [List.map_append]
    exact hS2.erase 1
theorem pow_is : ∀ {i : Nat}, i < 8 → (2 : Int) ^ (8 * i) = ((256 ^ i : Nat) : Int) := by decide
theorem r_shrI {P : Program} {o : Oper} {a : Act} {w : World} {t t' : TypeId} {x y : Operand} {n q m : Int} {i : Nat} (hop : o.op = .binOp .shr t x y t') (hx : evO a x = some (.int .i64 n)) (hy : evO a y = some (.int .i64 m)) (hm : m = 8 * (i : Int)) (hi : i < 8) (hq : n / ((256 ^ i : Nat) : Int) = q) : (execOp a.eval o).run P w = .ok (.value (.int .i64 q)) w := by
  unfold execOp; rw [hop]; subst hq hm
  have e2 : (8 * (i : Int)).toNat = 8 * i := by omega
  have e4 := pow_is hi
  generalize (((256 ^ i : Nat) : Int)) = c at *
  simp [Bb hx, Bb hy, eqGuard, binOp, e2, e4]
theorem r_convQ {P : Program} {o : Oper} {a : Act} {w : World} {s t : TypeId} {x : Operand} {k ks : IntKind} {n : Int} {z : UInt8} (hop : o.op = .convert s t x) (hx : evO a x = some (.int k n)) (hs : IntT P s ks) (ht : IntT P t .u8) (hq : n % 256 = (z.toNat : Int)) : (execOp a.eval o).run P w = .ok (.value (.int .u8 (z.toNat : Int))) w := by
  unfold execOp; rw [hop]
  simp only [Bb hx, convert, Sem.run_bind, run_underlying hs.is, run_underlying ht.is, Result.andThen_ok, Conv.intToInt]
  rw [show IntKind.u8.wrap n = (z.toNat : Int) by rw [IntKind.wrap_u8, hq]]
  rfl
/-- The byte of a number that stands in a place. -/
theorem byte_at (n : Int) {i : Nat} (hi : i < 8) : (n / ((256 ^ i : Nat) : Int)) % 256 = ((UInt8.ofNat (u64W n / 256 ^ i)).toNat : Int) := by
  have h : (UInt8.ofNat (u64W n / 256 ^ i)).toNat = u64W n / 256 ^ i % 256 := by simp
  rw [h]
  unfold u64W
  have : i = 0 ∨ i = 1 ∨ i = 2 ∨ i = 3 ∨ i = 4 ∨ i = 5 ∨ i = 6 ∨ i = 7 := by omega
  rcases this with rfl | rfl | rfl | rfl | rfl | rfl | rfl | rfl <;> simp only [Nat.reducePow] <;> omega
end Go.Proofs.Ytcjncidahjneaaa

namespace Go.Proofs.Ytcjncidahjneaaa
open Go.ChangeShapes Go.WideShapes Go.ChangeAt Go.RowKit
attribute [local irreducible] wpList wpListIn Oper.quietAt wpM
theorem beB_get (N : Nat) : ∀ {m k : Nat}, k < m → (beB N m)[k]? = some (UInt8.ofNat (N / 256 ^ (m - 1 - k)))
  | m + 1, 0, _ => by rw [beB_succ]; rfl
  | m + 1, k + 1, h => by
    rw [beB_succ, List.getElem?_cons_succ, beB_get N (show k < m by omega), show m + 1 - 1 - (k + 1) = m - 1 - k by omega]
theorem beB_next (N : Nat) {m k i : Nat} (h : k < m) (hi : m - 1 - k = i) : (beB N m).take (k + 1) = (beB N m).take k ++ [UInt8.ofNat (N / 256 ^ i)] := by
  subst hi
  have h1 := beB_get N h
  have h2 : k < (beB N m).length := by rw [beB_len]; exact h
  rw [List.take_succ_eq_append_getElem h2]
  rw [List.getElem?_eq_getElem h2] at h1
  rw [Option.some.inj h1]
theorem sized_8 (w0 : World) : Calls Try.prog 74 #[.int .i64 8] w0 fun e w' => e = .returned (.bool true) ∧ Below w0.heap.size w0 w' := by
  have hS := St.start w0
  go_enter Try.func74, Try.ntmps74
  repeat' (first | ((with_reducible refine Ac ?_); first | ((first | refine Ai Aa ?_ | refine Al Aa ?_ | refine Af Aa ?_ | refine Ak Aa ?_ | refine Aj Aa ?_ | refine Aw Aa (fun hc => ?_) (fun hc => ?_) | refine Bk Aa ?_) <;> refine Ad ?_)) | ((fail_if_success (with_reducible refine Ac ?_)); first | go_step | go_step3 | rw [Exit.noGoto_normal] | rw [Exit.noGoto_ret] | rw [Exit.noGoto_exit]))
  go_ret
  exact ⟨rfl, hS.below⟩
set_option maxRecDepth 100000 in
theorem cloneB (v : Value) (l : List UInt8) (hv0 : l = [] → v = .slice none 0 0) (hm : l.length ≤ 100000) (w0 : World) (hv : BytesAt w0 v l) :
    Calls Try.prog 76 #[v] w0 fun e w' => ∃ sv, e = .returned sv ∧ OwnB w0.heap.size w' sv l ∧ Below w0.heap.size w0 w' := by
  have hS := St.start w0
  by_cases hl : l = []
  · obtain rfl := hv0 hl
    subst hl
    go_enter Try.func76, Try.ntmps76
    repeat' (first | ((with_reducible refine Ac ?_); first | ((first | refine Ai Aa ?_ | refine Al Aa ?_ | refine Af Aa ?_ | refine Ak Aa ?_ | refine Aj Aa ?_ | refine Aw Aa (fun hc => ?_) (fun hc => ?_) | refine Ck Aa ?_ | refine Cd Aa ?_ | refine Bx Aa ?_ | refine Ar Aa ?_) <;> refine Ad ?_) | ((first | refine Ao Aa Ab hS ?_ | refine As Aa Ab hS ?_); clear hS; intro b w hS; refine Ad ?_)) | ((fail_if_success (with_reducible refine Ac ?_)); first | go_step | go_step3 | rw [Exit.noGoto_normal] | rw [Exit.noGoto_ret] | rw [Exit.noGoto_exit]))
    go_ret
    exact ⟨_, rfl, .inl ⟨rfl, rfl⟩, hS.below⟩
  · obtain ⟨p, c, rfl, hc⟩ := hv.slice
    obtain ⟨_, _, e1, _, _, h3⟩ := id hv
    simp only [Value.slice.injEq] at e1
    obtain ⟨rfl, _, rfl⟩ := e1
    obtain ⟨b1, o1, cs1, t1, f1, rfl, _⟩ := h3 hl
    go_enter Try.func76, Try.ntmps76
    repeat' (first | ((with_reducible refine Ac ?_); first | ((first | refine Ai Aa ?_ | refine Al Aa ?_ | refine Af Aa ?_ | refine Ak Aa ?_ | refine Aj Aa ?_ | refine Aw Aa (fun hc => ?_) (fun hc => ?_) | refine Ck Aa ?_ | refine Cd Aa ?_ | refine Bx Aa ?_ | refine Ar Aa ?_) <;> refine Ad ?_) | ((first | refine Ao Aa Ab hS ?_ | refine As Aa Ab hS ?_); clear hS; intro b w hS; refine Ad ?_)) | ((fail_if_success (with_reducible refine Ac ?_)); first | go_step | go_step3 | rw [Exit.noGoto_normal] | rw [Exit.noGoto_ret] | rw [Exit.noGoto_exit]))
    refine s_append Aa Ab hS (by rfl) (by rfl) (by rfl) (by rfl) (by infer_instance) (by exact at_ 0 rfl) (olds := []) (spare := []) (by rfl) (by rfl) (by omega) (by rfl) (hv.below hS.below).srcs (by rw [List.length_map, Nat.mul_one]) (bv_one l) (by unfold maxLen; omega) (Nat.zero_add _) ?_
    clear hS
    intro b' c' sp w' h1 h2 h3 hS
    refine Ad ?_
    repeat' (first | ((with_reducible refine Ac ?_); first | ((first | refine Ai Aa ?_ | refine Al Aa ?_ | refine Af Aa ?_ | refine Ak Aa ?_ | refine Aj Aa ?_ | refine Aw Aa (fun hc => ?_) (fun hc => ?_) | refine Ck Aa ?_ | refine Cd Aa ?_ | refine Bx Aa ?_ | refine Ar Aa ?_) <;> refine Ad ?_) | ((first | refine Ao Aa Ab hS ?_ | refine As Aa Ab hS ?_); clear hS; intro b w hS; refine Ad ?_)) | ((fail_if_success (with_reducible refine Ac ?_)); first | go_step | go_step3 | rw [Exit.noGoto_normal] | rw [Exit.noGoto_ret] | rw [Exit.noGoto_exit]))
    go_ret
    exact ⟨_, rfl, .inr ⟨b', c', sp, rfl, h1, h2, by rw [h3, Nat.mul_one], (hS.2.1 _ (List.mem_cons_self ..)).1, hS.blk 0 rfl⟩, hS.below⟩
set_option maxRecDepth 100000 in
theorem growB (l : List UInt8) (sv : Value) (Lr L : List Blk) (hR : BL l sv Lr) (n : Nat) (hn : 0 < n ∧ n ≤ 8) (hm : l.length ≤ 100000) (W0 w0 : World) (hS : St W0 w0 (Lr ++ L)) :
    Calls Try.prog 75 #[sv, .int .i64 (n : Int)] w0 fun e w' => ∃ sv' Lr', e = .returned sv' ∧ BL l sv' Lr' ∧ St W0 w' (Lr' ++ L) := by
  rcases hR with ⟨rfl, rfl, rfl⟩ | ⟨g, c, sp, rfl, h1, h2, h3, rfl⟩
  · simp only [List.nil_append] at hS
    go_enter Try.func75, Try.ntmps75
    repeat' (first | ((with_reducible refine Ac ?_); first | ((first | refine Ai Aa ?_ | refine Al Aa ?_ | refine Af Aa ?_ | refine Be Aa ?_ | refine g_cap Aa ?_ | refine Cj Aa ?_ | refine Ak Aa ?_ | refine Aj Aa ?_ | refine Aw Aa (fun hc => ?_) (fun hc => ?_) | refine Ax Aa ?_ | refine Bh Aa ?_ | refine Bc Aa ?_ | refine Au Aa ?_) <;> refine Ad ?_)) | ((fail_if_success (with_reducible refine Ac ?_)); first | go_step | go_step3 | rw [Exit.noGoto_normal] | rw [Exit.noGoto_ret] | rw [Exit.noGoto_exit]))
    refine s_appendZ Aa Ab hS (by rfl) (by rfl) (by rfl) (by rfl) (by infer_instance) (by infer_instance) (by exact Try.underlying3) ⟨hn.1, by omega⟩ ?_
    clear hS
    intro b' c' w' k1 k2 hS
    refine Ad ?_
    repeat' (first | ((with_reducible refine Ac ?_); first | ((first | refine Ai Aa ?_ | refine Al Aa ?_ | refine Af Aa ?_ | refine Be Aa ?_ | refine g_cap Aa ?_ | refine Cj Aa ?_ | refine Ak Aa ?_ | refine Aj Aa ?_ | refine Aw Aa (fun hc => ?_) (fun hc => ?_) | refine Ax Aa ?_ | refine Bh Aa ?_ | refine Bc Aa ?_ | refine Au Aa ?_) <;> refine Ad ?_)) | ((fail_if_success (with_reducible refine Ac ?_)); first | go_step | go_step3 | rw [Exit.noGoto_normal] | rw [Exit.noGoto_ret] | rw [Exit.noGoto_exit]))
    go_ret
    exact ⟨_, _, rfl, .inr ⟨b', c', (zs c').map bv, rfl, by simp, k2, by rw [List.length_map, zs_len]; simp, rfl⟩, hS⟩
  · simp only [List.cons_append, List.nil_append] at hS
    have h2' := h2
    unfold maxLen at h2'
    by_cases hroom : n ≤ c - l.length
    · go_enter Try.func75, Try.ntmps75
      repeat' (first | ((with_reducible refine Ac ?_); first | ((first | refine Ai Aa ?_ | refine Al Aa ?_ | refine Af Aa ?_ | refine Be Aa ?_ | refine g_cap Aa ?_ | refine Cj Aa ?_ | refine Ak Aa ?_ | refine Aj Aa ?_ | refine Aw Aa (fun hc => ?_) (fun hc => ?_) | refine Ax Aa ?_ | refine Bh Aa ?_ | refine Bc Aa ?_ | refine Au Aa ?_) <;> refine Ad ?_)) | ((fail_if_success (with_reducible refine Ac ?_)); first | go_step | go_step3 | rw [Exit.noGoto_normal] | rw [Exit.noGoto_ret] | rw [Exit.noGoto_exit]))
      go_ret
      exact ⟨_, _, rfl, .inr ⟨g, c, sp, rfl, h1, h2, h3, rfl⟩, hS⟩
    · go_enter Try.func75, Try.ntmps75
      repeat' (first | ((with_reducible refine Ac ?_); first | ((first | refine Ai Aa ?_ | refine Al Aa ?_ | refine Af Aa ?_ | refine Be Aa ?_ | refine g_cap Aa ?_ | refine Cj Aa ?_ | refine Ak Aa ?_ | refine Aj Aa ?_ | refine Aw Aa (fun hc => ?_) (fun hc => ?_) | refine Ax Aa ?_ | refine Bh Aa ?_ | refine Bc Aa ?_ | refine Au Aa ?_) <;> refine Ad ?_)) | ((fail_if_success (with_reducible refine Ac ?_)); first | go_step | go_step3 | rw [Exit.noGoto_normal] | rw [Exit.noGoto_ret] | rw [Exit.noGoto_exit]))
      obtain ⟨k, hk⟩ : ∃ k : Nat, (n : Int) - ((c : Int) - (l.length : Int)) = (k : Int) := ⟨n - (c - l.length), by omega⟩
      rw [hk]
      refine s_appendZG Aa Ab hS (by rfl) (by rfl) (by rfl) (by rfl) (by infer_instance) (by infer_instance) (by exact at_ 0 rfl) (olds := l.map bv ++ sp) (post := []) (by simp) (by rw [List.length_append, List.length_map, h3]; omega) (k := k) (by omega) (by omega) (by omega) rfl ?_
      clear hS
      intro b' c' rest' w' k1 k2 k3 hS
      have k2' := k2
      unfold maxLen at k2'
      refine Ad ?_
      repeat' (first | ((with_reducible refine Ac ?_); first | ((first | refine Ai Aa ?_ | refine Al Aa ?_ | refine Af Aa ?_ | refine Be Aa ?_ | refine g_cap Aa ?_ | refine Cj Aa ?_ | refine Ak Aa ?_ | refine Aj Aa ?_ | refine Aw Aa (fun hc => ?_) (fun hc => ?_) | refine Ax Aa ?_ | refine Bh Aa ?_ | refine Bc Aa ?_ | refine Au Aa ?_) <;> refine Ad ?_)) | ((fail_if_success (with_reducible refine Ac ?_)); first | go_step | go_step3 | rw [Exit.noGoto_normal] | rw [Exit.noGoto_ret] | rw [Exit.noGoto_exit]))
      go_ret
      refine ⟨_, [_], rfl, .inr ⟨b', c', sp ++ rest', rfl, by omega, k2, by rw [List.length_append, h3, k3]; omega, rfl⟩, ?_⟩
      rw [← List.append_assoc]
      exact hS.erase 1
set_option maxRecDepth 100000 in
set_option maxHeartbeats 4000000 in
theorem put_8 (l : List UInt8) (v : Value) (hv0 : l = [] → v = .slice none 0 0) (hm : l.length ≤ 1000) (n : Int) (w0 : World) (hv : BytesAt w0 v l) :
    Calls Try.prog 58 #[v, .int .i64 8, .int .i64 n] w0 fun e w' => ∃ sv, e = .returned (.tuple #[sv, .nilIface]) ∧ OwnB w0.heap.size w' sv (l ++ beB (u64W n) 8) ∧ Below w0.heap.size w0 w' := by
  have hS := St.start w0
  have hb8 : (beB (u64W n) 8).length = 8 := beB_len _ _
  go_enter Try.func58, Try.ntmps58
  repeat' (first | ((with_reducible refine Ac ?_); first | ((first | refine Ai Aa ?_ | refine Al Aa ?_ | refine Af Aa ?_ | refine Cj Aa ?_ | refine Ca Aa ?_ | refine Ak Aa ?_ | refine Aj Aa ?_ | refine Aw Aa (fun hc => ?_) (fun hc => ?_) | refine Ax Aa ?_ | refine Bq Aa ?_ | refine Bk Aa ?_ | refine Bw Aa ?_ | refine Ar Aa ?_) <;> refine Ad ?_) | ((first | refine Ao Aa Ab hS ?_ | refine As Aa Ab hS ?_); clear hS; intro b w hS; refine Ad ?_) | (refine Ce Aa Ab hS (sized_8 _) ?_; clear hS; intro w hS; refine Ad ?_)) | ((fail_if_success (with_reducible refine Ac ?_)); first | go_step | go_step3 | rw [Exit.noGoto_normal] | rw [Exit.noGoto_ret] | rw [Exit.noGoto_exit]))
  refine s_call Aa (by rfl) (by rfl) (by rfl) (by rfl) (by rfl) (by infer_instance) (cloneB v l hv0 (by omega) _ (hv.below hS.below)) ?_
  rintro e w1 ⟨sv, rfl, ho, hB⟩
  refine ⟨_, rfl, ?_⟩
  refine Ad ?_
  obtain ⟨Lr, hR, hS2⟩ := ho.join hS hB
  replace hS := hS2
  clear hS2 ho hB
  repeat' (first | ((with_reducible refine Ac ?_); first | ((first | refine Ai Aa ?_ | refine Al Aa ?_ | refine Af Aa ?_ | refine Cj Aa ?_ | refine Ca Aa ?_ | refine Ak Aa ?_ | refine Aj Aa ?_ | refine Aw Aa (fun hc => ?_) (fun hc => ?_) | refine Ax Aa ?_ | refine Bq Aa ?_ | refine Bk Aa ?_ | refine Bw Aa ?_ | refine Ar Aa ?_) <;> refine Ad ?_) | ((first | refine Ao Aa Ab hS ?_ | refine As Aa Ab hS ?_); clear hS; intro b w hS; refine Ad ?_)) | ((fail_if_success (with_reducible refine Ac ?_)); first | go_step | go_step3 | rw [Exit.noGoto_normal] | rw [Exit.noGoto_ret] | rw [Exit.noGoto_exit]))
  refine s_call Aa (by rfl) (by rfl) (by rfl) (by rfl) (by rfl) (by infer_instance) (growB l sv Lr [] hR 8 (by omega) (by omega) _ _ hS) ?_
  rintro e w2 ⟨sv2, Lr2, rfl, hR2, hS2⟩
  refine ⟨_, rfl, ?_⟩
  refine Ad ?_
  replace hS := hS2
  clear hS2 hR
  repeat' (first | ((with_reducible refine Ac ?_); first | ((first | refine Ai Aa ?_ | refine Al Aa ?_ | refine Af Aa ?_ | refine Cj Aa ?_ | refine Ca Aa ?_ | refine Ak Aa ?_ | refine Aj Aa ?_ | refine Aw Aa (fun hc => ?_) (fun hc => ?_) | refine Ax Aa ?_ | refine Bq Aa ?_ | refine Bk Aa ?_ | refine Bw Aa ?_ | refine Ar Aa ?_) <;> refine Ad ?_) | ((first | refine Ao Aa Ab hS ?_ | refine As Aa Ab hS ?_); clear hS; intro b w hS; refine Ad ?_)) | ((fail_if_success (with_reducible refine Ac ?_)); first | go_step | go_step3 | rw [Exit.noGoto_normal] | rw [Exit.noGoto_ret] | rw [Exit.noGoto_exit]))
  go_loopw [8, 9] (fun u8 u9 wr => ∃ (k : Nat) (Lr : List Blk), k ≤ 8 ∧ u9 = .int .i64 (7 - (k : Int)) ∧ BL (l ++ (beB (u64W n) 8).take k) u8 Lr ∧ St w0 wr Lr) (fun _ u9 _ => (intOf u9 + 1).toNat)
  case atStart => exact ⟨0, Lr2, by omega, rfl, by rw [List.take_zero, List.append_nil]; exact hR2, by rwa [List.append_nil] at hS⟩
  case round =>
    obtain ⟨k, Lr, hk, rfl, hR, hS⟩ := hrel
    obtain ⟨p2, c2, rfl⟩ := hR.slice
    have hll : (l ++ (beB (u64W n) 8).take k).length ≤ 2000 := by rw [List.length_append, List.length_take]; omega
    by_cases hlt : k < 8
    · obtain ⟨i, hi⟩ : ∃ i : Nat, 7 - (k : Int) = (i : Int) := ⟨7 - k, by omega⟩
      rw [hi]
      have hi8 : i < 8 := by omega
      have hby := byte_at n hi8
      obtain ⟨q, hq⟩ : ∃ q, n / ((256 ^ i : Nat) : Int) = q := ⟨_, rfl⟩
      rw [hq] at hby
      repeat' (first | ((with_reducible refine Ac ?_); first | ((first | refine Ai Aa ?_ | refine Al Aa ?_ | refine Af Aa ?_ | refine Cj Aa ?_ | refine Ca Aa ?_ | refine Ak Aa ?_ | refine Aj Aa ?_ | refine Aw Aa (fun hc => ?_) (fun hc => ?_) | refine Ax Aa ?_ | refine Bq Aa ?_ | refine Bk Aa ?_ | refine Bw Aa ?_ | refine Ar Aa ?_) <;> refine Ad ?_) | ((first | refine Ao Aa Ab hS ?_ | refine As Aa Ab hS ?_); clear hS; intro b w hS; refine Ad ?_) | (refine Stp.go Aa (by rfl) (by rfl) (r_shrI (by rfl) (by rfl) (by rfl) (by first | rfl | omega) hi8 hq) ?_; refine Ad ?_) | (refine Stp.go Aa (by rfl) (by rfl) (r_convQ (by rfl) (by rfl) (by infer_instance) (by infer_instance) hby) ?_; refine Ad ?_)) | ((fail_if_success (with_reducible refine Ac ?_)); first | go_step | go_step3 | rw [Exit.noGoto_normal] | rw [Exit.noGoto_ret] | rw [Exit.noGoto_exit]))
      refine s_appB (L := []) (z := UInt8.ofNat (u64W n / 256 ^ i)) (by rwa [List.append_nil]) hR (by omega) (by rfl) (by rfl) (by rfl) (by rfl) ?_
      intro sv' Lr' w' hR' hS'
      rw [List.append_nil] at hS'
      rw [List.append_assoc, ← beB_next (m := 8) (u64W n) hlt (by omega)] at hR'
      obtain ⟨p3, c3, rfl⟩ := hR'.slice
      refine Ad ?_
      replace hS := hS'
      clear hS' hR
      repeat' (first | ((with_reducible refine Ac ?_); first | ((first | refine Ai Aa ?_ | refine Al Aa ?_ | refine Af Aa ?_ | refine Cj Aa ?_ | refine Ca Aa ?_ | refine Ak Aa ?_ | refine Aj Aa ?_ | refine Aw Aa (fun hc => ?_) (fun hc => ?_) | refine Ax Aa ?_ | refine Bq Aa ?_ | refine Bk Aa ?_ | refine Bw Aa ?_ | refine Ar Aa ?_) <;> refine Ad ?_) | ((first | refine Ao Aa Ab hS ?_ | refine As Aa Ab hS ?_); clear hS; intro b w hS; refine Ad ?_)) | ((fail_if_success (with_reducible refine Ac ?_)); first | go_step | go_step3 | rw [Exit.noGoto_normal] | rw [Exit.noGoto_ret] | rw [Exit.noGoto_exit]))
      go_roundw
      case rel => exact ⟨k + 1, Lr', by omega, by rw [← hi]; push_cast; congr 1; omega, hR', hS⟩
      case measure => first | (simp [intOf]; done) | (simp [intOf]; omega)
    · obtain rfl : k = 8 := by omega
      rw [List.take_of_length_le (by omega)] at hR hll ⊢
      repeat' (first | ((with_reducible refine Ac ?_); first | ((first | refine Ai Aa ?_ | refine Al Aa ?_ | refine Af Aa ?_ | refine Cj Aa ?_ | refine Ca Aa ?_ | refine Ak Aa ?_ | refine Aj Aa ?_ | refine Aw Aa (fun hc => ?_) (fun hc => ?_) | refine Ax Aa ?_ | refine Bq Aa ?_ | refine Bk Aa ?_ | refine Bw Aa ?_ | refine Ar Aa ?_) <;> refine Ad ?_) | ((first | refine Ao Aa Ab hS ?_ | refine As Aa Ab hS ?_); clear hS; intro b w hS; refine Ad ?_)) | ((fail_if_success (with_reducible refine Ac ?_)); first | go_step | go_step3 | rw [Exit.noGoto_normal] | rw [Exit.noGoto_ret] | rw [Exit.noGoto_exit]))
      go_ret2
      exact ⟨_, rfl, hR.own hS (fun x hx => hx), hS.below⟩
end Go.Proofs.Ytcjncidahjneaaa

namespace Go.Proofs.Ytcjncidahjneaaa
open Go.ChangeShapes Go.WideShapes Go.ChangeAt Go.RowKit
attribute [local irreducible] wpList wpListIn Oper.quietAt wpM
end Go.Proofs.Ytcjncidahjneaaa

namespace Go.Proofs.Ytcjncidahjneaaa
open Go.ChangeShapes Go.WideShapes Go.ChangeAt Go.RowKit
attribute [local irreducible] wpList wpListIn Oper.quietAt wpM
theorem r_convV {P : Program} {o : Oper} {a : Act} {w : World} {s t : TypeId} {x : Operand} {k ks : IntKind} {n : Int} {u : Nat} (hop : o.op = .convert s t x) (hx : evO a x = some (.int k n)) (hs : IntT P s ks) (ht : IntT P t .u64) (hu : (n % 18446744073709551616).toNat = u) : (execOp a.eval o).run P w = .ok (.value (.int .u64 (u : Int))) w := by
  unfold execOp; rw [hop]
  simp only [Bb hx, convert, Sem.run_bind, run_underlying hs.is, run_underlying ht.is, Result.andThen_ok, Conv.intToInt]
  rw [show IntKind.u64.wrap n = (u : Int) by rw [IntKind.wrap_u64]; omega]
  rfl
end Go.Proofs.Ytcjncidahjneaaa
