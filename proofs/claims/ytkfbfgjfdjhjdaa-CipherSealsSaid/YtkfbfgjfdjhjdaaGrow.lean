/-
  Slices of one's own that are appended to, beside one's other blocks. Lemmas alone, no condition of their own.
-/
import Derived.Test.YtkfbfgjfdjhjdaaTail
import Derived.Test.YtkfbfgjfdjhjdaaOpenS
import Derived.Maps.AppendAt
import Derived.Laws.AppendOwnNone
namespace Go.Proofs.Ytkfbfgjfdjhjdaa
open Go.RowKit

/-- A slice of one's own (or nil), beside one's other blocks: its elements' cells. -/
structure Gr (w0 wr : World) (e size : Nat) (v : Value) (n : Nat) (xs : List Value) (L : List (Nat × Array Value × TypeId)) : Prop where
  own : wr.ownsRow w0.heap.size e size v n xs
  st : St w0 wr L
  apart : ∀ g, v.ownBlock = some g → g ∉ L.map (·.1)

theorem ownsRow_below {w w' : World} {base e size n : Nat} {v : Value} {xs : List Value} (h : w.ownsRow base e size v n xs) (hb : Below w.heap.size w w') : w'.ownsRow base e size v n xs := by
  refine ⟨h.1, ?_⟩
  rcases h.2 with h2 | ⟨g, cap, cur, h1, h2, h3, h4⟩
  · exact .inl h2
  · exact .inr ⟨g, cap, cur, h1, h2, (hb.block g (Array.getElem?_eq_some_iff.1 h3).1).trans h3, h4⟩
theorem Gr.nil {w0 wr : World} {e size : Nat} {L : List (Nat × Array Value × TypeId)} (h : St w0 wr L) : Gr w0 wr e size (.slice none 0 0) 0 [] L :=
  ⟨World.ownsRow_nil wr _ e size, h, fun g hg => by simp [Value.ownBlock] at hg⟩
/-- A new block, as a slice. -/
theorem Gr.of {w0 wr : World} {e size g n cap : Nat} {cs : Array Value} {L : List (Nat × Array Value × TypeId)} (h : St w0 wr ((g, cs, e) :: L)) (hn : n ≤ cap) (hc : cap ≤ maxLen) (hs : cs.size = cap * size) :
    Gr w0 wr e size (.slice (some ⟨g, 0, none⟩) n cap) n (cs.toList.take (n * size)) L := by
  have h0 := h.2.1 _ (List.mem_cons_self ..)
  refine ⟨⟨?_, .inr ⟨g, cap, cs, rfl, h0.1, h0.2, hn, hc, hs, rfl⟩⟩, h.tail, fun b hb => ?_⟩
  · rw [List.length_take, Array.length_toList, hs]
    exact Nat.min_eq_left (Nat.mul_le_mul_right _ hn)
  · simp only [Value.ownBlock, Option.some.injEq] at hb
    subst hb
    exact (List.nodup_cons.1 (by simpa using h.2.2)).1
theorem Gr.call {w0 wr w1 : World} {e size n : Nat} {v : Value} {xs : List Value} {L : List (Nat × Array Value × TypeId)} (h : Gr w0 wr e size v n xs L) (hb : Below wr.heap.size wr w1) : Gr w0 w1 e size v n xs L :=
  ⟨ownsRow_below h.own hb, h.st.call hb, h.apart⟩
theorem Gr.lt {w0 wr : World} {e size n g : Nat} {v : Value} {xs : List Value} {L : List (Nat × Array Value × TypeId)} (h : Gr w0 wr e size v n xs L) (hg : v.ownBlock = some g) : g < wr.heap.size := by
  rcases h.own.2 with ⟨rfl, _⟩ | ⟨g', cap, cur, rfl, _, h3, _⟩
  · simp [Value.ownBlock] at hg
  · simp only [Value.ownBlock, Option.some.injEq] at hg
    subst hg
    exact (Array.getElem?_eq_some_iff.1 h3).1
theorem Gr.alloc {w0 wr : World} {e size n : Nat} {v : Value} {xs : List Value} {L : List (Nat × Array Value × TypeId)} (h : Gr w0 wr e size v n xs L) (cs : Array Value) (t : TypeId) : Gr w0 (wr.alloc (.cells cs t)) e size v n xs ((wr.heap.size, cs, t) :: L) := by
  refine ⟨ownsRow_below h.own ((Below.refl _ _).alloc (Nat.le_refl _) _), h.st.alloc cs t, fun g hg hm => ?_⟩
  simp only [List.map_cons, List.mem_cons] at hm
  rcases hm with h1 | h1
  · have := h.lt hg; omega
  · exact h.apart g hg h1
theorem Gr.alloc' {w0 wr : World} {e size n m : Nat} {v : Value} {xs : List Value} {L : List (Nat × Array Value × TypeId)} {cs : Array Value} {t : TypeId} (h : Gr w0 wr e size v n xs L) (hm : m = wr.heap.size) : Gr w0 (wr.alloc (.cells cs t)) e size v n xs ((m, cs, t) :: L) := by
  subst hm; exact h.alloc cs t
theorem Gr.tail {w0 wr : World} {e size n : Nat} {v : Value} {xs : List Value} {x : Nat × Array Value × TypeId} {L : List (Nat × Array Value × TypeId)} (h : Gr w0 wr e size v n xs (x :: L)) : Gr w0 wr e size v n xs L :=
  ⟨h.own, h.st.tail, fun g hg hm => h.apart g hg (List.mem_cons_of_mem _ hm)⟩
theorem Gr.setRow {w0 wr : World} {e size n : Nat} {v : Value} {xs : List Value} {L : List (Nat × Array Value × TypeId)} (h : Gr w0 wr e size v n xs L) (i : Nat) {b : Nat} {cs : Array Value} {t : TypeId} (hi : L[i]? = some (b, cs, t)) (cs' : Array Value) :
    Gr w0 (wr.setRow b cs') e size v n xs (L.set i (b, cs', t)) := by
  have hil : i < L.length := (List.getElem?_eq_some_iff.1 hi).1
  have hk : (L.set i (b, cs', t)).map (·.1) = L.map (·.1) := by
    rw [List.map_set]
    have : b = (L.map (·.1))[i]'(by simpa using hil) := by
      have := (List.getElem?_eq_some_iff.1 hi).2
      simp [this]
    simp only [this, List.set_getElem_self]
  have hbL : b ∈ L.map (·.1) := List.mem_map.2 ⟨_, List.mem_of_getElem? hi, rfl⟩
  refine ⟨⟨h.own.1, ?_⟩, h.st.setRow i hi cs', fun g hg => by rw [hk]; exact h.apart g hg⟩
  rcases h.own.2 with h2 | ⟨g, cap, cur, rfl, h2, h3, h4⟩
  · exact .inl h2
  · have hne : g ≠ b := fun e => h.apart g rfl (e ▸ hbL)
    exact .inr ⟨g, cap, cur, rfl, h2, (setRow_other wr b g cs' hne).trans h3, h4⟩
theorem Gr.setCell {w0 wr : World} {e size n : Nat} {v : Value} {xs : List Value} {L : List (Nat × Array Value × TypeId)} (h : Gr w0 wr e size v n xs L) (i : Nat) {b : Nat} {cs : Array Value} {t : TypeId} (hi : L[i]? = some (b, cs, t)) (o : Nat) (x : Value) :
    Gr w0 (wr.setCell ⟨b, o, none⟩ x) e size v n xs (L.set i (b, cs.setIfInBounds o x, t)) := by
  rw [setCell_eq_setRow wr b o cs t (0, 0) x (h.st.blk i hi)]
  exact h.setRow i hi _
/-- The slice's own block, among the others. -/
theorem Gr.open {w0 wr : World} {e size n : Nat} {v : Value} {xs : List Value} {L : List (Nat × Array Value × TypeId)} (h : Gr w0 wr e size v n xs L) (hn : v ≠ .slice none 0 0) :
    ∃ g cap cur, v = .slice (some ⟨g, 0, none⟩) n cap ∧ n ≤ cap ∧ cap ≤ maxLen ∧ cur.size = cap * size ∧ cur.toList.take (n * size) = xs ∧ St w0 wr ((g, cur, e) :: L) := by
  rcases h.own.2 with ⟨rfl, _⟩ | ⟨g, cap, cur, rfl, h2, h3, h4, h5, h6, h7⟩
  · exact absurd rfl hn
  · refine ⟨g, cap, cur, rfl, h4, h5, h6, h7, h.st.1, fun x hx => ?_, ?_⟩
    · rcases List.mem_cons.1 hx with rfl | hx
      · exact ⟨h2, h3⟩
      · exact h.st.2.1 x hx
    · simp only [List.map_cons, List.nodup_cons]
      exact ⟨h.apart g rfl, h.st.2.2⟩
/-- A slice that a call has made: one's own. -/
theorem Gr.made {w0 wr w1 : World} {e size n : Nat} {v : Value} {xs : List Value} {L : List (Nat × Array Value × TypeId)} (h : St w0 wr L) (hb : Below wr.heap.size wr w1) (ho : w1.ownsRow wr.heap.size e size v n xs) : Gr w0 w1 e size v n xs L := by
  have hs := h.1.size
  refine ⟨⟨ho.1, ?_⟩, h.call hb, fun g hg hm => ?_⟩
  · rcases ho.2 with h2 | ⟨g, cap, cur, h1, h2, h3⟩
    · exact .inl h2
    · exact .inr ⟨g, cap, cur, h1, by omega, h3⟩
  · obtain ⟨x, hx, rfl⟩ := List.mem_map.1 hm
    have h1 := blk_lt (h.2.1 x hx).2
    rcases ho.2 with ⟨rfl, _⟩ | ⟨g, cap, cur, rfl, h2, h3⟩
    · simp [Value.ownBlock] at hg
    · simp only [Value.ownBlock, Option.some.injEq] at hg
      omega

/-- The value is a slice whose elements' cells these are. -/
def SrcAt (w : World) (v : Value) (size m : Nat) (news : List Value) : Prop :=
  news.length = m * size ∧ (∀ u ∈ news, u.oneCell' = true) ∧ ((v = .slice none 0 0 ∧ m = 0) ∨ ∃ ad c, v = .slice (some ad) m c ∧ ∀ j u, news[j]? = some u → w.cell? (ad.add j) = some u)

theorem SrcAt.own {w0 wr : World} {L : List (Nat × Array Value × TypeId)} (h : St w0 wr L) (i : Nat) {b : Nat} {cs : Array Value} {t : TypeId} (hi : L[i]? = some (b, cs, t)) {size m c : Nat} {news : List Value} (hl : news.length = m * size) (h1 : ∀ u ∈ news, u.oneCell' = true)
    (hc : ∀ (j : Nat) (u : Value), news[j]? = some u → cs[j]? = some u) : SrcAt wr (.slice (some ⟨b, 0, none⟩) m c) size m news :=
  ⟨hl, h1, .inr ⟨_, c, rfl, fun j u hj => by rw [add_addr, Nat.zero_add, (h.at i hi).2.1 j]; exact hc j u hj⟩⟩
/-- **append**, to a slice of one's own. -/
theorem wp_append {P : Program} {ops : Array Oper} {rest : List Oper} {o : Oper} {a : Act} {Q : Exit → Act → World → Prop} {w0 w : World} {t e size bytes : Nat} (hE : elemB P t e size bytes = true) (hgd : o.guard = none) {s x : Operand}
    (ho : o.op = .call { callee := .builtin .append, args := #[s, x], argTypes := #[t, t] }) {v : Value} {n : Nat} {xs : List Value} {L : List (Nat × Array Value × TypeId)} (hG : Gr w0 w e size v n xs L) (hs : a.eval s = v)
    {vx : Value} {m : Nat} {news : List Value} (hx : a.eval x = vx) (hsrc : SrcAt w vx size m news) (h63 : n + m ≤ maxLen) (hbytes : (n + m) * bytes ≤ 140737488355328)
    (h : ∀ v' w', Gr w0 w' e size v' (n + m) (xs ++ news) L → (v' = .slice none 0 0 ↔ v = .slice none 0 0 ∧ m = 0) → wpList P ops Q rest (a.put o.dst v') w') : wpList P ops Q (o :: rest) a w := by
  obtain ⟨ht, i, z, hi, hz, hsz, hby, hzs, hpos⟩ := elemB_iff hE
  obtain ⟨hl, h1, hv⟩ := hsrc
  rcases hv with ⟨rfl, rfl⟩ | ⟨ad, c, rfl, hnews⟩
  · refine wpList_append_own_none hgd s x t ho w0.heap.size e i size ht hi v n xs hs hG.own hx ?_
    have : news = [] := List.eq_nil_of_length_eq_zero (by simpa using hl)
    subst this
    exact h v w (by simpa using hG) (by simp)
  · refine wpList_append_own_at (w := w) hgd s x t ho w0.heap.size e i z size bytes ht hi hz hsz hby hzs hpos v n xs hs hG.own ad m c news hx hl hnews h1 h63 hbytes hG.st.1.size fun v' w' h2 h3 h4 h5 => ?_
    refine h v' w' ⟨h2, ?_, ?_⟩ h4
    · refine ⟨hG.st.1.trans ⟨h3.os, h3.tape, h3.output, h3.size, fun k hk => h3.block k (by have := hG.st.1.size; omega) (fun hk2 => ?_)⟩, fun y hy => ⟨(hG.st.2.1 y hy).1, ?_⟩, hG.st.2.2⟩
      · rcases hG.own.2 with ⟨rfl, _⟩ | ⟨g, cap, cur, rfl, hb, _⟩
        · simp [Value.ownBlock] at hk2
        · simp only [Value.ownBlock, Option.some.injEq] at hk2
          omega
      · have hy2 := (hG.st.2.1 y hy).2
        refine (h3.block _ (blk_lt hy2) (fun hk2 => ?_)).trans hy2
        exact hG.apart _ hk2.symm (List.mem_map.2 ⟨y, hy, rfl⟩)
    · intro g hg hm
      rcases h5 with h5 | h5
      · exact hG.apart g (h5 ▸ hg) hm
      · rw [h5] at hg
        simp only [Option.some.injEq] at hg
        obtain ⟨y, hy, he⟩ := List.mem_map.1 hm
        have := blk_lt (hG.st.2.1 y hy).2
        omega

/-! ### Rows of bytes as cells -/
def flat (ks : List (List UInt8)) : List Value := ks.flatMap (·.map bv)
theorem flat_len {n : Nat} : ∀ {ks : List (List UInt8)}, (∀ k ∈ ks, k.length = n) → (flat ks).length = ks.length * n
  | [], _ => by simp [flat]
  | k :: ks, h => by
    have h1 := flat_len (ks := ks) (fun k hk => h k (List.mem_cons_of_mem _ hk))
    have h2 := h k (List.mem_cons_self ..)
    simp only [flat, List.flatMap_cons, List.length_append, List.length_map, List.length_cons] at h1 ⊢
    rw [h1, h2, Nat.add_mul]; omega
theorem flat_get {n : Nat} : ∀ {ks : List (List UInt8)}, (∀ k ∈ ks, k.length = n) → ∀ {i j : Nat} {k : List UInt8} {x : UInt8}, ks[i]? = some k → k[j]? = some x → (flat ks)[i * n + j]? = some (bv x)
  | [], _, i, j, k, x, h1, _ => by simp at h1
  | k0 :: ks, h, i, j, k, x, h1, h2 => by
    have hk0 := h k0 (List.mem_cons_self ..)
    cases i with
    | zero =>
      simp only [List.getElem?_cons_zero, Option.some.injEq] at h1
      subst h1
      have hj : j < k0.length := (List.getElem?_eq_some_iff.1 h2).1
      simp only [flat, List.flatMap_cons, Nat.zero_mul, Nat.zero_add]
      rw [List.getElem?_append_left (by simpa using hj)]
      simp [h2]
    | succ i =>
      have ih := flat_get (ks := ks) (fun k hk => h k (List.mem_cons_of_mem _ hk)) (by simpa using h1) h2
      simp only [flat, List.flatMap_cons] at ih ⊢
      rw [List.getElem?_append_right (by rw [List.length_map, hk0, Nat.add_mul]; omega), List.length_map, hk0, show (i + 1) * n + j - n = i * n + j by rw [Nat.add_mul]; omega]
      exact ih
theorem flat_one (ks : List (List UInt8)) : ∀ u ∈ flat ks, u.oneCell' = true := by
  intro u hu
  simp only [flat, List.mem_flatMap, List.mem_map] at hu
  obtain ⟨k, _, x, _, rfl⟩ := hu
  rfl
theorem flat_app (a b : List (List UInt8)) : flat (a ++ b) = flat a ++ flat b := by simp [flat]
/-- Cells that begin with rows: one of them. -/
theorem row_of_flat {n : Nat} (hn : 0 < n) {ks : List (List UInt8)} (hk : ∀ k ∈ ks, k.length = n) {cur : Array Value} {m : Nat} (h : cur.toList.take m = flat ks) {i : Nat} {k : List UInt8} (hi : ks[i]? = some k) :
    i * n + n ≤ csz cur ∧ cut cur (i * n) n = bvs k := by
  have hkl := hk k (List.mem_of_getElem? hi)
  refine cut_of_cells hkl hn fun j x hj => ?_
  have := flat_get hk hi hj
  rw [← h, List.getElem?_take] at this
  split at this
  · simpa using this
  · cases this
theorem RowsAt.src {w : World} {n : Nat} {v : Value} {ks : List (List UInt8)} (h : RowsAt w n v ks) (hn : 0 < n) : SrcAt w v n ks.length (flat ks) := by
  obtain ⟨hk, p, c, rfl, hp, h3⟩ := h
  cases ks with
  | nil =>
    refine ⟨by simp [flat], flat_one _, ?_⟩
    cases p with
    | none => exact .inl ⟨by rw [hp rfl]; rfl, rfl⟩
    | some ad => exact .inr ⟨ad, c, rfl, fun j u hj => by simp [flat] at hj⟩
  | cons k0 ks =>
    refine ⟨flat_len hk, flat_one _, .inr ?_⟩
    obtain ⟨b, o, cs, t, e, rfl, hb, _, _⟩ := h3 0 k0 rfl
    refine ⟨_, c, rfl, fun j u hj => ?_⟩
    have hjl : j < (flat (k0 :: ks)).length := (List.getElem?_eq_some_iff.1 hj).1
    rw [flat_len hk] at hjl
    have hi : j / n < (k0 :: ks).length := Nat.div_lt_of_lt_mul (by rw [Nat.mul_comm]; exact hjl)
    have hmod : j % n < n := Nat.mod_lt _ hn
    have hki := List.getElem?_eq_getElem hi
    have hkl := hk _ (List.getElem_mem hi)
    have hx : ((k0 :: ks)[j / n])[j % n]? = some ((k0 :: ks)[j / n])[j % n] := List.getElem?_eq_getElem (by rw [hkl]; exact hmod)
    have hfl := flat_get hk hki hx
    have ej : j / n * n + j % n = j := by rw [Nat.mul_comm]; exact Nat.div_add_mod j n
    rw [ej, hj] at hfl
    obtain ⟨b2, o2, cs2, t2, e2, ha, hb2, hsz, hcut⟩ := h3 (j / n) _ hki
    simp only [Option.some.injEq, Addr.mk.injEq] at ha
    obtain ⟨rfl, rfl, _⟩ := ha
    have hce : (some (Obj.cells cs t e) : Option Obj) = some (.cells cs2 t2 e2) := hb.symm.trans hb2
    cases hce
    rw [add_addr, cell_of_row w b (o + j) cs t e hb]
    have h1 := bvs_at hx
    rw [← hcut] at h1
    have e1 : cs[o + j / n * n + j % n]? = some (bv ((k0 :: ks)[j / n])[j % n]) := by
      unfold cut at h1
      split at h1
      · rename_i hz; rw [hz.1, Nat.zero_add]; exact h1
      · rw [Array.getElem?_extract] at h1
        split at h1
        · exact h1
        · cases h1
    rw [show o + j / n * n + j % n = o + j by omega] at e1
    rw [e1, hfl]
end Go.Proofs.Ytkfbfgjfdjhjdaa
