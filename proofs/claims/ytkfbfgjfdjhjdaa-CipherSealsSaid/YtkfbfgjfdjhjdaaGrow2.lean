/-
  More laws on slices of one's own: append within the capacity, make, copy; slice literals of words. Lemmas alone, no condition of their own.
-/
import Derived.Test.YtkfbfgjfdjhjdaaNum
import Derived.Test.YtkfbfgjfdjhjdaaPlain
import Derived.Laws.CopyOwn
import Derived.Laws.Cover3
namespace Go.Proofs.Ytkfbfgjfdjhjdaa
open Go.ChangeShapes Go.WideShapes Go.ChangeAt Go.RowKit
/-- So many cells, of which the first are these. -/
def Beg (cur : Array Value) (m : Nat) (xs : List Value) : Prop := cur.size = m ∧ cur.toList.take xs.length = xs
theorem Beg.write {cur : Array Value} {m : Nat} {xs : List Value} (h : Beg cur m xs) (news : List Value) (hm : xs.length + news.length ≤ m) : Beg ((cur.toList.take xs.length ++ (news ++ cur.toList.drop (xs.length + news.length))).toArray) m (xs ++ news) := by
  obtain ⟨h1, h2⟩ := h
  refine ⟨by simp; omega, ?_⟩
  rw [h2]
  show (xs ++ (news ++ _)).take (xs ++ news).length = xs ++ news
  rw [← List.append_assoc]
  exact List.take_left
theorem Beg.nil (cur : Array Value) (m : Nat) (h : cur.size = m) : Beg cur m [] := ⟨h, by simp⟩
theorem Beg.all {cur : Array Value} {m : Nat} {xs : List Value} (h : Beg cur m xs) (hm : xs.length = m) : cur = xs.toArray := by
  obtain ⟨h1, h2⟩ := h
  rw [List.take_of_length_le (by simp; omega)] at h2
  rw [← h2]
theorem Beg.get {cur : Array Value} {m : Nat} {xs : List Value} (h : Beg cur m xs) {i : Nat} {x : Value} (hi : xs[i]? = some x) : cur[i]? = some x := by
  have hil : i < xs.length := (List.getElem?_eq_some_iff.1 hi).1
  have := congrArg (·[i]?) h.2
  simp only [List.getElem?_take, if_pos hil, hi] at this
  simpa using this
theorem Beg.row {cur : Array Value} {m n : Nat} {ks : List (List UInt8)} (h : Beg cur m (flat ks)) (hn : 0 < n) (hk : ∀ k ∈ ks, k.length = n) {i : Nat} {k : List UInt8} (hi : ks[i]? = some k) : i * n + n ≤ csz cur ∧ cut cur (i * n) n = bvs k :=
  row_of_flat hn hk h.2 hi

theorem copy_one' {c : List UInt8} : ∀ v ∈ c.map bv, v.oneCell' = true := fun v hv => by
  obtain ⟨b, _, rfl⟩ := List.mem_map.1 hv
  rfl
/-- **append** within the capacity. -/
theorem wp_append_fits {P : Program} {ops : Array Oper} {rest : List Oper} {o : Oper} {a : Act} {Q : Exit → Act → World → Prop} {w0 w : World} {t e size bytes : Nat} (hE : elemB P t e size bytes = true) (hgd : o.guard = none) {s x : Operand}
    (ho : o.op = .call { callee := .builtin .append, args := #[s, x], argTypes := #[t, t] }) {L : List (Nat × Array Value × TypeId)} (hS : St w0 w L) (i : Nat) {g n cap : Nat} {cur : Array Value} (hi : L[i]? = some (g, cur, e)) (hs : a.eval s = .slice (some ⟨g, 0, none⟩) n cap)
    {ad : Addr} {m c : Nat} {xs news : List Value} (hB : Beg cur (cap * size) xs) (hxl : xs.length = n * size) (hx : a.eval x = .slice (some ad) m c) (hsrc : SrcAt w (.slice (some ad) m c) size m news) (hroom : n + m ≤ cap)
    (h : ∀ cur', Beg cur' (cap * size) (xs ++ news) → St w0 (w.setRow g cur') (L.set i (g, cur', e)) → wpList P ops Q rest (a.put o.dst (.slice (some ⟨g, 0, none⟩) (n + m) cap)) (w.setRow g cur')) : wpList P ops Q (o :: rest) a w := by
  obtain ⟨ht, ie, z, hie, hz, hsz, hby, hzs, hpos⟩ := elemB_iff hE
  obtain ⟨hl, h1, hv⟩ := hsrc
  rcases hv with ⟨h2, _⟩ | ⟨ad2, c2, h2, hnews⟩
  · cases h2
  · simp only [Value.slice.injEq, Option.some.injEq] at h2
    obtain ⟨rfl, _, rfl⟩ := h2
    have hfit : xs.length + news.length ≤ cap * size := by rw [hxl, hl, ← Nat.add_mul]; exact Nat.mul_le_mul_right _ hroom
    refine wpList_plain hgd fun K hK => ?_
    have hrun := run_append_room (P := P) w t o.type e ie ht hie g n cap cur (hS.blk i hi) ad m c news (by rw [hsz]; exact hl) hnews h1 hroom (by rw [hsz, ← hxl, hB.1]; exact hfit)
    rw [hsz, ← hxl, List.append_assoc] at hrun
    have hB2 := hB.write news hfit
    have hS2 := hS.setRow i hi ((cur.toList.take xs.length ++ (news ++ cur.toList.drop (xs.length + news.length))).toArray)
    unfold Oper.wp
    simp [execOp, ho, resolve, invoke, builtin, hs, hx, hrun, Result.andThen]
    exact hK _ _ (h _ hB2 hS2)

/-- **make([]T, n)**. -/
theorem wp_make_full {P : Program} {ops : Array Oper} {rest : List Oper} {o : Oper} {a : Act} {Q : Exit → Act → World → Prop} {w0 w : World} {t e size bytes : Nat} (hE : elemB P t e size bytes = true) (hgd : o.guard = none) {l c : Operand}
    (ho : o.op = .makeSlice t l c) {L : List (Nat × Array Value × TypeId)} (hS : St w0 w L) {kl kc : IntKind} {N C : Int} (n : Nat) (hl : a.eval l = .int kl N) (hc : a.eval c = .int kc C) (hN : N = (n : Int)) (hC : C = (n : Int)) (hb : bytes * n ≤ 281474976710656) (hn : n ≤ maxLen)
    (h : ∀ w' cur, cur.size = n * size → (∀ z, (P.info? e).bind (·.zero) = some z → cur.toList = (madeCells z.cells (n * size)).toList) → St w0 w' ((w.heap.size, cur, e) :: L) → wpList P ops Q rest (a.put o.dst (.slice (some ⟨w.heap.size, 0, none⟩) n n)) w') : wpList P ops Q (o :: rest) a w := by
  obtain ⟨ht, i, z, hi, hz, hsz, hby, _⟩ := elemB_iff hE
  refine wpList_make_full w hgd l c t ho w0.heap.size e i z size ht hi hz hsz kl kc N C n hl hc hN hC (by rw [hby]; exact hb) hn hS.1.size fun w' h1 h2 => ?_
  rcases h1.2 with ⟨h3, _⟩ | ⟨g, cap, cur, h3, h4, h5, h6, h7, h8, h9⟩
  · cases h3
  · simp only [Value.slice.injEq, Option.some.injEq, Addr.mk.injEq, true_and] at h3
    obtain ⟨⟨rfl, _⟩, rfl⟩ := h3
    rw [List.take_of_length_le (by simp; omega)] at h9
    refine h w' cur h8 (fun z' hz' => ?_) ⟨hS.1.trans ⟨h2.os, h2.tape, h2.output, h2.size, fun k hk => h2.block k (by have := hS.1.size; omega) (fun h => by cases h)⟩, fun y hy => ?_, ?_⟩
    · rw [hi] at hz'
      simp only [Option.bind_some, hz, Option.some.injEq] at hz'
      subst hz'
      exact h9
    · rcases List.mem_cons.1 hy with rfl | hy
      · exact ⟨h4, h5⟩
      · exact ⟨(hS.2.1 y hy).1, (h2.block _ (blk_lt (hS.2.1 y hy).2) (fun h => by cases h)).trans (hS.2.1 y hy).2⟩
    · simp only [List.map_cons, List.nodup_cons]
      refine ⟨fun hm => ?_, hS.2.2⟩
      obtain ⟨y, hy, he⟩ := List.mem_map.1 hm
      have := blk_lt (hS.2.1 y hy).2
      omega
theorem Gr.cells0 {w0 wr : World} {e size cap g : Nat} {L : List (Nat × Array Value × TypeId)} (h : Gr w0 wr e size (.slice (some ⟨g, 0, none⟩) 0 cap) 0 [] L) : ∃ cur, cur.size = cap * size ∧ St w0 wr ((g, cur, e) :: L) := by
  obtain ⟨g2, cap2, cur, hv, _, _, hs, _, hS⟩ := h.open (fun h => by cases h)
  simp only [Value.slice.injEq, Option.some.injEq, Addr.mk.injEq, true_and] at hv
  obtain ⟨⟨rfl, _⟩, rfl⟩ := hv
  exact ⟨cur, hs, hS⟩

/-- One of one's blocks, brought to the front. -/
theorem front_mem {α : Type} : ∀ {L : List α} {i : Nat} {x : α}, L[i]? = some x → ∀ y, y ∈ x :: L.eraseIdx i ↔ y ∈ L
  | [], i, x, h, y => by simp at h
  | a :: L, 0, x, h, y => by simp at h; subst h; simp
  | a :: L, i + 1, x, h, y => by
    have ih := front_mem (L := L) (i := i) (x := x) (by simpa using h) y
    simp only [List.eraseIdx_cons_succ, List.mem_cons] at ih ⊢
    constructor
    · rintro (h1 | h1 | h1)
      · exact .inr (ih.1 (.inl h1))
      · exact .inl h1
      · exact .inr (ih.1 (.inr h1))
    · rintro (h1 | h1)
      · exact .inr (.inl h1)
      · rcases ih.2 h1 with h2 | h2
        · exact .inl h2
        · exact .inr (.inr h2)
theorem front_nodup : ∀ {L : List (Nat × Array Value × TypeId)} {i : Nat} {x : Nat × Array Value × TypeId}, L[i]? = some x → (L.map (·.1)).Nodup → ((x :: L.eraseIdx i).map (·.1)).Nodup
  | [], i, x, h, _ => by simp at h
  | a :: L, 0, x, h, hn => by simp at h; subst h; simpa using hn
  | a :: L, i + 1, x, h, hn => by
    have hx : L[i]? = some x := by simpa using h
    simp only [List.map_cons, List.nodup_cons] at hn
    have ih := front_nodup (L := L) hx hn.2
    simp only [List.map_cons, List.nodup_cons, List.eraseIdx_cons_succ] at ih ⊢
    have hne : x.1 ≠ a.1 := fun e => hn.1 (e ▸ List.mem_map.2 ⟨x, List.mem_of_getElem? hx, rfl⟩)
    refine ⟨?_, ?_, ih.2⟩
    · simp only [List.mem_cons, not_or]
      exact ⟨hne, ih.1⟩
    · intro hm
      obtain ⟨y, hy, he⟩ := List.mem_map.1 hm
      exact hn.1 (List.mem_map.2 ⟨y, (front_mem hx y).1 (List.mem_cons_of_mem _ hy), he⟩)
theorem St.front {w0 wr : World} {L : List (Nat × Array Value × TypeId)} (h : St w0 wr L) (i : Nat) {x : Nat × Array Value × TypeId} (hi : L[i]? = some x) : St w0 wr (x :: L.eraseIdx i) :=
  ⟨h.1, fun y hy => h.2.1 y ((front_mem hi y).1 hy), front_nodup hi h.2.2⟩

/-- **append** to a slice of one's own, its block among the others. -/
theorem wp_append_at {P : Program} {ops : Array Oper} {rest : List Oper} {o : Oper} {a : Act} {Q : Exit → Act → World → Prop} {w0 w : World} {t e size bytes : Nat} (hE : elemB P t e size bytes = true) (hgd : o.guard = none) {s x : Operand}
    (ho : o.op = .call { callee := .builtin .append, args := #[s, x], argTypes := #[t, t] }) {L : List (Nat × Array Value × TypeId)} (hS : St w0 w L) (i : Nat) {g n cap : Nat} {cur : Array Value} (hi : L[i]? = some (g, cur, e)) (hs : a.eval s = .slice (some ⟨g, 0, none⟩) n cap)
    {xs : List Value} (hB : Beg cur (cap * size) xs) (hxl : xs.length = n * size) (hnc : n ≤ cap) (hcm : cap ≤ maxLen) {vx : Value} {m : Nat} {news : List Value} (hx : a.eval x = vx) (hsrc : SrcAt w vx size m news) (h63 : n + m ≤ maxLen) (hbytes : (n + m) * bytes ≤ 140737488355328)
    (h : ∀ g' cap' cur' w', Beg cur' (cap' * size) (xs ++ news) → n + m ≤ cap' → cap' ≤ maxLen → St w0 w' ((g', cur', e) :: L.eraseIdx i) → wpList P ops Q rest (a.put o.dst (.slice (some ⟨g', 0, none⟩) (n + m) cap')) w') : wpList P ops Q (o :: rest) a w := by
  have hG := Gr.of (size := size) (n := n) (cap := cap) (hS.front i hi) hnc hcm hB.1
  rw [← hxl, hB.2] at hG
  refine wp_append hE hgd ho hG hs hx hsrc h63 hbytes fun v' w' hG' hnil => ?_
  obtain ⟨g', cap', cur', hv, h1, h2, h3, h4, h5⟩ := hG'.open (fun hv => by have := (hnil.1 hv).1; cases this)
  rw [hv]
  have hl := hG'.own.1
  exact h g' cap' cur' w' ⟨h3, by rw [hl]; exact h4⟩ h1 h2 h5
/-- **append** to a nil slice, at least one element. -/
theorem wp_append_nil {P : Program} {ops : Array Oper} {rest : List Oper} {o : Oper} {a : Act} {Q : Exit → Act → World → Prop} {w0 w : World} {t e size bytes : Nat} (hE : elemB P t e size bytes = true) (hgd : o.guard = none) {s x : Operand}
    (ho : o.op = .call { callee := .builtin .append, args := #[s, x], argTypes := #[t, t] }) {L : List (Nat × Array Value × TypeId)} (hS : St w0 w L) (hs : a.eval s = .slice none 0 0)
    {vx : Value} {m : Nat} (hm : 0 < m) {news : List Value} (hx : a.eval x = vx) (hsrc : SrcAt w vx size m news) (h63 : m ≤ maxLen) (hbytes : m * bytes ≤ 140737488355328)
    (h : ∀ g' cap' cur' w', Beg cur' (cap' * size) news → m ≤ cap' → cap' ≤ maxLen → St w0 w' ((g', cur', e) :: L) → wpList P ops Q rest (a.put o.dst (.slice (some ⟨g', 0, none⟩) m cap')) w') : wpList P ops Q (o :: rest) a w := by
  refine wp_append hE hgd ho (Gr.nil (e := e) (size := size) hS) hs hx hsrc (by omega) (by rw [Nat.zero_add]; exact hbytes) fun v' w' hG' hnil => ?_
  rw [Nat.zero_add, List.nil_append] at hG'
  obtain ⟨g', cap', cur', hv, h1, h2, h3, h4, h5⟩ := hG'.open (fun hv => by have := (hnil.1 hv).2; omega)
  rw [hv]
  have hl := hG'.own.1
  exact h g' cap' cur' w' ⟨h3, by rw [hl]; exact h4⟩ h1 h2 h5

/-- A slice literal of one word. -/
def buildSliceW (t : TypeId) (n : Nat) (parts : Array (Nat × Value)) : Sem Value := if n = n then Instr.buildSlice t n parts else Instr.buildSlice t n parts
@[go_sem ↓] theorem buildSlice_words (n : Nat) (parts : Array (Nat × Value)) : Instr.buildSlice 75 n parts = buildSliceW 75 n parts := by unfold buildSliceW; rw [if_pos rfl]
@[go_sem] theorem run_words1 (l : List UInt8) (h : csz (bvs l) = 4) (w : World) : (buildSliceW 75 1 #[(0, .agg (bvs l))]).run Try.prog w = .ok (.slice (some ⟨w.heap.size, 0, none⟩) 1 1) (w.alloc (.cells (bvs l) 28)) := by
  have h0 : (Try.prog.info? 28).map (fun i => (i.zero, i.size)) = some (some (.agg (bvs (zs 4))), 4) := by rw [← zs4]; kernel_rfl
  cases hi : Try.prog.info? 28 with
  | none => rw [hi] at h0; cases h0
  | some i =>
    rw [hi] at h0
    simp only [Option.map_some, Option.some.injEq, Prod.mk.injEq] at h0
    unfold buildSliceW
    rw [if_pos rfl]
    refine run_buildSlice w 75 28 1 _ _ i _ Try.underlying75 hi h0.1 (by rw [h0.2]; decide) (by rw [h0.2]; decide) ?_
    rw [h0.2]
    rw [csz_bvs] at h
    obtain ⟨a, b, c, d, rfl⟩ := len4 h
    rw [← zs4]
    kernel_rfl
end Go.Proofs.Ytkfbfgjfdjhjdaa
