/-
  How slices of bytes, and slices of arrays of bytes, that came in are opened. Lemmas alone, no condition of their own.
-/
import Derived.Test.YtkfbfgjfdjhjdaaOpen
import Derived.Deep.Slices
namespace Go.Proofs.Ytkfbfgjfdjhjdaa
open Go.ChangeShapes Go.WideShapes Go.ChangeAt Go.RowKit

/-- The value is a slice of these rows of bytes, each of so many. -/
def RowsAt (w : World) (s : Nat) (v : Value) (ks : List (List UInt8)) : Prop :=
  (∀ k ∈ ks, k.length = s) ∧ ∃ p c, v = .slice p ks.length c ∧ (p = none → c = 0) ∧ ∀ i k, ks[i]? = some k → ∃ b o cs t e, p = some ⟨b, o, none⟩ ∧ blk w b = some (.cells cs t e) ∧ o + i * s + s ≤ csz cs ∧ cut cs (o + i * s) s = bvs k
/-- The value is a slice of these bytes. -/
def BytesAt (w : World) (v : Value) (l : List UInt8) : Prop :=
  ∃ p c, v = .slice p l.length c ∧ l.length ≤ c ∧ (p = none → c = 0) ∧ (l ≠ [] → ∃ b o cs t e, p = some ⟨b, o, none⟩ ∧ blk w b = some (.cells cs t e) ∧ ∀ i x, l[i]? = some x → cs[o + i]? = some (bv x))

theorem RowsAt.below {w w' : World} {s : Nat} {v : Value} {ks : List (List UInt8)} (h : RowsAt w s v ks) (hb : Below w.heap.size w w') : RowsAt w' s v ks := by
  obtain ⟨h1, p, c, h2, h0, h3⟩ := h
  refine ⟨h1, p, c, h2, h0, fun i k hi => ?_⟩
  obtain ⟨b, o, cs, t, e, h4, h5, h6⟩ := h3 i k hi
  exact ⟨b, o, cs, t, e, h4, (hb.block b (blk_lt h5)).trans h5, h6⟩
theorem BytesAt.below {w w' : World} {v : Value} {l : List UInt8} (h : BytesAt w v l) (hb : Below w.heap.size w w') : BytesAt w' v l := by
  obtain ⟨p, c, h2, h1, h0, h3⟩ := h
  refine ⟨p, c, h2, h1, h0, fun hne => ?_⟩
  obtain ⟨b, o, cs, t, e, h4, h5, h6⟩ := h3 hne
  exact ⟨b, o, cs, t, e, h4, (hb.block b (blk_lt h5)).trans h5, h6⟩
theorem RowsAt.row {w : World} {s n c : Nat} {p : Option Addr} {ks : List (List UInt8)} (h : RowsAt w s (.slice p n c) ks) {i : Nat} {k : List UInt8} (hi : ks[i]? = some k) :
    k.length = s ∧ ∃ b o cs t e, p = some ⟨b, o, none⟩ ∧ blk w b = some (.cells cs t e) ∧ o + i * s + s ≤ csz cs ∧ cut cs (o + i * s) s = bvs k := by
  obtain ⟨h1, p', c', h2, _, h3⟩ := h
  simp only [Value.slice.injEq] at h2
  obtain ⟨rfl, _, _⟩ := h2
  exact ⟨h1 k (List.mem_of_getElem? hi), h3 i k hi⟩
theorem blk_of_cell {w : World} {a : Addr} {v : Value} (h : w.cell? a = some v) : ∃ b o cs t e, a = ⟨b, o, none⟩ ∧ blk w b = some (.cells cs t e) ∧ cs[o]? = some v := by
  unfold World.cell? at h
  cases ho : w.heap[a.block]? with
  | none => simp [ho] at h
  | some o =>
    cases o with
    | cells c t fr =>
      simp only [ho] at h
      obtain ⟨b, o, sp⟩ := a
      cases sp with
      | some s => simp at h
      | none => exact ⟨b, o, c, t, fr, rfl, ho, by simpa using h⟩
    | _ => simp [ho] at h

theorem add_addr (b o j : Nat) : (⟨b, o, none⟩ : Addr).add j = ⟨b, o + j, none⟩ := by
  unfold Addr.add
  split <;> simp_all

/-- Cells in a row are a piece of a block. -/
theorem piece_of_cells {w : World} {base : Nat} {a : Addr} {n : Nat} {l : List UInt8} (hn : 0 < n) (hl : l.length = n) (h : w.cells? base a n = some (l.map bv)) :
    ∃ b o cs t e, a = ⟨b, o, none⟩ ∧ blk w b = some (.cells cs t e) ∧ ∀ i x, l[i]? = some x → cs[o + i]? = some (bv x) := by
  have hc := (World.cells?_some h).2.2
  have h0 := hc 0 hn
  rw [show a.add 0 = a by simp [Addr.add]] at h0
  have e0 : (l.map bv)[0]? = some (bv (l.getD 0 0)) := by simp [show 0 < l.length by omega]
  rw [e0] at h0
  obtain ⟨b, o, cs, t, e, rfl, hb, hx⟩ := blk_of_cell h0
  refine ⟨b, o, cs, t, e, rfl, hb, fun i x hi => ?_⟩
  have hil : i < l.length := (List.getElem?_eq_some_iff.1 hi).1
  have h1 := hc i (by omega)
  rw [add_addr, cell_of_row w b (o + i) cs t e hb] at h1
  rw [h1]
  simp [hi]

theorem csz_is (cs : Array Value) : csz cs = cs.size := by unfold csz; rfl
theorem cut_of_cells {cs : Array Value} {o n : Nat} {l : List UInt8} (hl : l.length = n) (hn : 0 < n) (h : ∀ i x, l[i]? = some x → cs[o + i]? = some (bv x)) : o + n ≤ csz cs ∧ cut cs o n = bvs l := by
  have hs : o + n ≤ cs.size := by
    have h1 := h (n - 1) (l.getD (n - 1) 0) (by simp [show n - 1 < l.length by omega])
    have := (Array.getElem?_eq_some_iff.1 h1).1
    omega
  refine ⟨by rw [csz_is]; exact hs, ?_⟩
  have key : cs.extract o (o + n) = bvs l := by
    apply Array.ext_getElem?
    intro i
    rw [bvs_getElem?]
    by_cases hi : i < n
    · have hx : l[i]? = some l[i] := List.getElem?_eq_getElem (by omega)
      rw [Array.getElem?_extract, hx]
      simp only [Option.map_some]
      rw [if_pos (by omega)]
      exact h i _ hx
    · rw [Array.getElem?_eq_none (by simp; omega), List.getElem?_eq_none (by omega)]; rfl
  unfold cut
  split
  · rename_i hc
    obtain ⟨rfl, hc⟩ := hc
    rw [csz_is] at hc
    rw [← key]
    simp [← hc]
  · exact key

/-- A slice of arrays of bytes that came in. -/
theorem open_rows {P : Program} {H : Type} {enc : TypeId × Value → H} {w : World} {base : Nat} {sp : Nat → Bool} {held : Bool} {t e n : Nat} {v : Value} {d : DataW H} {p : List MemPlace}
    (ht : P.underlying t = some (.slice e)) (h : isBytes P e n = true) (hc : P.cellsOf e = n) (hn : 0 < n) (hone : ∀ e2, P.underlying e = some (.array n e2) → P.cellsOf e2 = 1) (hv : ∃ a len cap, v = .slice a len cap) (hr : DataW.Trod enc P w base sp held t v d p) :
    ∃ ks, RowsAt w n v ks ∧ ks.length ≤ maxLen := by
  obtain ⟨a0, len0, cap0, rfl⟩ := hv
  obtain ⟨fuel, hf⟩ := hr
  rcases Go.Deep.open_slice ht hf with ⟨hcs, _⟩ | ⟨a, len, cap, m, n2, D, Pl, hcs, _, hlc, hcm, hm, _, hx⟩
  · simp only [Value.cells, List.cons.injEq, Value.slice.injEq, and_true] at hcs
    obtain ⟨rfl, rfl, rfl⟩ := hcs
    exact ⟨[], ⟨fun _ h => (List.not_mem_nil h).elim, none, 0, rfl, fun _ => rfl, fun i k hi => by simp at hi⟩, by simp⟩
  · simp only [Value.cells, List.cons.injEq, Value.slice.injEq, and_true] at hcs
    obtain ⟨rfl, rfl, rfl⟩ := hcs
    have hlm : len0 ≤ m := by rw [hm]; split <;> omega
    have key : ∀ i, i < len0 → ∃ l : List UInt8, l.length = n ∧ w.cells? base (a.add (i * n)) n = some (l.map bv) := by
      intro i hi
      obtain ⟨cs', h1, h2⟩ := hx i (by omega)
      obtain ⟨l, hl, rfl⟩ := trod_bytes h hc hone h2
      rw [hc] at h1
      exact ⟨l, hl, h1⟩
    refine ⟨(List.range len0).map fun i => if hi : i < len0 then (key i hi).choose else [], ⟨fun k hk => ?_, some a, cap0, by simp, (fun h => by cases h), fun i k hi => ?_⟩, by simp; omega⟩
    · obtain ⟨i, hi, rfl⟩ := List.mem_map.1 hk
      have hi2 := List.mem_range.1 hi
      simp only [dif_pos hi2]
      exact (key i hi2).choose_spec.1
    · have hil : i < len0 := by have := (List.getElem?_eq_some_iff.1 hi).1; simpa using this
      have hk : k = (key i hil).choose := by
        simp [hil] at hi
        exact hi.symm
      obtain ⟨h1, h2⟩ := (key i hil).choose_spec
      rw [← hk] at h1 h2
      obtain ⟨b, o, cs, t2, e2, ha, hb, hcs⟩ := piece_of_cells hn h1 h2
      have ha2 : ∃ o0, a = ⟨b, o0, none⟩ ∧ o = o0 + i * n := by
        have hsp : a.spot = none := by
          obtain ⟨cs0, h3, _⟩ := hx 0 (by omega)
          rw [hc, Nat.zero_mul, show a.add 0 = a by simp [Addr.add]] at h3
          have h4 := (World.cells?_some h3).2.2 0 hn
          rw [show a.add 0 = a by simp [Addr.add]] at h4
          cases hcs0 : cs0[0]? with
          | none =>
            have := (World.cells?_some h3).2.1
            rw [List.getElem?_eq_none_iff] at hcs0
            omega
          | some v0 =>
            rw [hcs0] at h4
            obtain ⟨_, _, _, _, _, he, _⟩ := blk_of_cell h4
            rw [he]
        obtain ⟨ab, ao, asp⟩ := a
        simp only at hsp
        subst hsp
        rw [add_addr] at ha
        simp only [Addr.mk.injEq] at ha
        exact ⟨ao, by rw [ha.1], ha.2.1.symm⟩
      obtain ⟨o0, rfl, rfl⟩ := ha2
      obtain ⟨c1, c2⟩ := cut_of_cells h1 hn hcs
      exact ⟨b, o0, cs, t2, e2, rfl, hb, c1, c2⟩

/-- A slice of bytes that came in. -/
theorem open_bytes {P : Program} {H : Type} {enc : TypeId × Value → H} {w : World} {base : Nat} {sp : Nat → Bool} {held : Bool} {t e : Nat} {v : Value} {d : DataW H} {p : List MemPlace}
    (ht : P.underlying t = some (.slice e)) (he : P.underlying e = some (.int .u8)) (hc : P.cellsOf e = 1) (hv : ∃ a len cap, v = .slice a len cap) (hr : DataW.Trod enc P w base sp held t v d p) :
    ∃ l, BytesAt w v l ∧ l.length ≤ maxLen := by
  obtain ⟨a0, len0, cap0, rfl⟩ := hv
  obtain ⟨fuel, hf⟩ := hr
  rcases Go.Deep.open_slice1 ht hc hf with ⟨hcs, _⟩ | ⟨a, len, cap, m, n2, V, D, Pl, hcs, _, hlc, hcm, hm, _, hx⟩
  · simp only [Value.cells, List.cons.injEq, Value.slice.injEq, and_true] at hcs
    obtain ⟨rfl, rfl, rfl⟩ := hcs
    exact ⟨[], ⟨none, 0, rfl, Nat.le_refl _, fun _ => rfl, fun h => absurd rfl h⟩, by simp⟩
  · simp only [Value.cells, List.cons.injEq, Value.slice.injEq, and_true] at hcs
    obtain ⟨rfl, rfl, rfl⟩ := hcs
    have hlm : len0 ≤ m := by rw [hm]; split <;> omega
    have key : ∀ i, i < len0 → ∃ x : UInt8, w.cell? (a.add i) = some (bv x) := by
      intro i hi
      obtain ⟨h1, h2⟩ := hx i (by omega)
      obtain ⟨x, e4, _, wf⟩ := DataW.trod_int he h2
      simp at e4
      have q1 : IntKind.u8.min = 0 := rfl
      have q2 : IntKind.u8.max = 255 := rfl
      simp only [Lit.wf, Bool.and_eq_true, decide_eq_true_eq] at wf
      refine ⟨UInt8.ofNat x.toNat, ?_⟩
      rw [h1, e4]
      simp only [bv]
      have : ((UInt8.ofNat x.toNat).toNat : Int) = x := by simp; omega
      rw [this]
    refine ⟨(List.range len0).map fun i => if hi : i < len0 then (key i hi).choose else 0, ⟨some a, cap0, by simp, by simp; omega, (fun h => by cases h), fun hne => ?_⟩, by simp; omega⟩
    have h0 : 0 < len0 := by
      rcases Nat.eq_zero_or_pos len0 with rfl | h
      · exact absurd rfl hne
      · exact h
    obtain ⟨x0, hk0⟩ := key 0 h0
    rw [show a.add 0 = a by simp [Addr.add]] at hk0
    obtain ⟨b, o, cs, t2, e2, rfl, hb, _⟩ := blk_of_cell hk0
    refine ⟨b, o, cs, t2, e2, rfl, hb, fun i x hi => ?_⟩
    have hil : i < len0 := by have := (List.getElem?_eq_some_iff.1 hi).1; simpa using this
    have hk : x = (key i hil).choose := by
      simp [hil] at hi
      exact hi.symm
    have h2 := (key i hil).choose_spec
    rw [← hk, add_addr, cell_of_row w b (o + i) cs t2 e2 hb] at h2
    exact h2
end Go.Proofs.Ytkfbfgjfdjhjdaa
