/-
  Laws that the claims of this seat use, of several texts in one: Plain, Grow2, Ovw, Octets, DoubleP, Double, CopyB, CopyG. No condition of their own.
-/
import Derived.Laws.CopyOwn
import Derived.Laws.Cover3
import Derived.Laws.CopyRow
import Derived.Laws.IdiomCopy
import Derived.Test.YtcjncidahjneaaaJB0

namespace Go.Proofs.Ytcjncidahjneaaa
open Go.ChangeShapes Go.WideShapes Go.ChangeAt Go.RowKit

theorem len16 {l : List UInt8} (h : l.length = 16) : ∃ a0 a1 a2 a3 a4 a5 a6 a7 a8 a9 a10 a11 a12 a13 a14 a15 : UInt8, l = [a0, a1, a2, a3, a4, a5, a6, a7, a8, a9, a10, a11, a12, a13, a14, a15] := by
  match l, h with
  | [a0, a1, a2, a3, a4, a5, a6, a7, a8, a9, a10, a11, a12, a13, a14, a15], _ => exact ⟨a0, a1, a2, a3, a4, a5, a6, a7, a8, a9, a10, a11, a12, a13, a14, a15, rfl⟩
theorem len4 {l : List UInt8} (h : l.length = 4) : ∃ a0 a1 a2 a3 : UInt8, l = [a0, a1, a2, a3] := by
  match l, h with
  | [a0, a1, a2, a3], _ => exact ⟨a0, a1, a2, a3, rfl⟩
theorem zs16_is : zs 16 = [0, 0, 0, 0, 0, 0, 0, 0, 0, 0, 0, 0, 0, 0, 0, 0] := by unfold zs; rfl
theorem zs4_is : zs 4 = [0, 0, 0, 0] := by unfold zs; rfl

def shPart (l : List UInt8) : Nat → List UInt8
  | 0 => zs 16
  | k + 1 => (shPart l k).set k (l.getD ((k + 4 * (k % 4)) % 16) 0)
theorem shPart_len (l : List UInt8) (k : Nat) : (shPart l k).length = 16 := by
  induction k with
  | zero => exact zs_len 16
  | succ k ih => simp [shPart, ih]
theorem shPart_succ (l : List UInt8) (k : Nat) : shPart l (k + 1) = (shPart l k).set k (l.getD ((k + 4 * (k % 4)) % 16) 0) := rfl
theorem shPart_zero (l : List UInt8) : shPart l 0 = zs 16 := rfl

def unPart (l : List UInt8) : Nat → List UInt8
  | 0 => zs 16
  | k + 1 => (unPart l k).set ((k + 4 * (k % 4)) % 16) (l.getD k 0)
theorem unPart_len (l : List UInt8) (k : Nat) : (unPart l k).length = 16 := by
  induction k with
  | zero => exact zs_len 16
  | succ k ih => simp [unPart, ih]
theorem unPart_succ (l : List UInt8) (k : Nat) : unPart l (k + 1) = (unPart l k).set ((k + 4 * (k % 4)) % 16) (l.getD k 0) := rfl
theorem unPart_zero (l : List UInt8) : unPart l 0 = zs 16 := rfl

def tabPart (l : List UInt8) : Nat → List UInt8
  | 0 => zs 16
  | k + 1 => (tabPart l k).set (k % 4 * 4 + k / 4) (l.getD k 0)
theorem tabPart_len (l : List UInt8) (k : Nat) : (tabPart l k).length = 16 := by
  induction k with
  | zero => exact zs_len 16
  | succ k ih => simp [tabPart, ih]
theorem tabPart_succ (l : List UInt8) (k : Nat) : tabPart l (k + 1) = (tabPart l k).set (k % 4 * 4 + k / 4) (l.getD k 0) := rfl
theorem tabPart_zero (l : List UInt8) : tabPart l 0 = zs 16 := rfl

def untPart (l : List UInt8) : Nat → List UInt8
  | 0 => zs 16
  | k + 1 => (untPart l k).set k (l.getD (k % 4 * 4 + k / 4) 0)
theorem untPart_len (l : List UInt8) (k : Nat) : (untPart l k).length = 16 := by
  induction k with
  | zero => exact zs_len 16
  | succ k ih => simp [untPart, ih]
theorem untPart_succ (l : List UInt8) (k : Nat) : untPart l (k + 1) = (untPart l k).set k (l.getD (k % 4 * 4 + k / 4) 0) := rfl
theorem untPart_zero (l : List UInt8) : untPart l 0 = zs 16 := rfl

def rsPart (t : List UInt8) : Nat → List UInt8
  | 0 => zs 16
  | n + 1 => (rsPart t n).set (n / 4 * 4 + n % 4) (t.getD (n / 4 * 4 + (n % 4 + n / 4) % 4) 0)
theorem rsPart_len (l : List UInt8) (k : Nat) : (rsPart l k).length = 16 := by
  induction k with
  | zero => exact zs_len 16
  | succ k ih => simp [rsPart, ih]
theorem rsPart_succ (t : List UInt8) (r c : Nat) (hc : c < 4) : rsPart t (4 * r + (c + 1)) = (rsPart t (4 * r + c)).set (r * 4 + c) (t.getD (r * 4 + (c + r) % 4) 0) := by
  have e1 : (4 * r + c) / 4 = r := by omega
  have e2 : (4 * r + c) % 4 = c := by omega
  show rsPart t ((4 * r + c) + 1) = _
  simp only [rsPart, e1, e2]
theorem rsPart_zero (l : List UInt8) : rsPart l 0 = zs 16 := rfl


theorem shift_is {l : List UInt8} {a0 a1 a2 a3 a4 a5 a6 a7 a8 a9 a10 a11 a12 a13 a14 a15 : UInt8} (h : l = [a0, a1, a2, a3, a4, a5, a6, a7, a8, a9, a10, a11, a12, a13, a14, a15]) :
    shPart l 16 = [a0, a5, a10, a15, a4, a9, a14, a3, a8, a13, a2, a7, a12, a1, a6, a11] := by
  subst h; simp only [shPart, zs16_is]; rfl
theorem unshift_is {l : List UInt8} {a0 a1 a2 a3 a4 a5 a6 a7 a8 a9 a10 a11 a12 a13 a14 a15 : UInt8} (h : l = [a0, a1, a2, a3, a4, a5, a6, a7, a8, a9, a10, a11, a12, a13, a14, a15]) :
    unPart l 16 = [a0, a13, a10, a7, a4, a1, a14, a11, a8, a5, a2, a15, a12, a9, a6, a3] := by
  subst h; simp only [unPart, zs16_is]; rfl
theorem unshift_shift {l : List UInt8} (h : l.length = 16) : unPart (shPart l 16) 16 = l := by
  obtain ⟨a0, a1, a2, a3, a4, a5, a6, a7, a8, a9, a10, a11, a12, a13, a14, a15, rfl⟩ := len16 h
  rw [shift_is rfl, unshift_is rfl]
theorem shift_unshift {l : List UInt8} (h : l.length = 16) : shPart (unPart l 16) 16 = l := by
  obtain ⟨a0, a1, a2, a3, a4, a5, a6, a7, a8, a9, a10, a11, a12, a13, a14, a15, rfl⟩ := len16 h
  rw [unshift_is rfl, shift_is rfl]
theorem table_is {l : List UInt8} {a0 a1 a2 a3 a4 a5 a6 a7 a8 a9 a10 a11 a12 a13 a14 a15 : UInt8} (h : l = [a0, a1, a2, a3, a4, a5, a6, a7, a8, a9, a10, a11, a12, a13, a14, a15]) :
    tabPart l 16 = [a0, a4, a8, a12, a1, a5, a9, a13, a2, a6, a10, a14, a3, a7, a11, a15] := by
  subst h; simp only [tabPart, zs16_is]; rfl
theorem block_is {l : List UInt8} {a0 a1 a2 a3 a4 a5 a6 a7 a8 a9 a10 a11 a12 a13 a14 a15 : UInt8} (h : l = [a0, a1, a2, a3, a4, a5, a6, a7, a8, a9, a10, a11, a12, a13, a14, a15]) :
    untPart l 16 = [a0, a4, a8, a12, a1, a5, a9, a13, a2, a6, a10, a14, a3, a7, a11, a15] := by
  subst h; simp only [untPart, zs16_is]; rfl
theorem rows_is {l : List UInt8} {a0 a1 a2 a3 a4 a5 a6 a7 a8 a9 a10 a11 a12 a13 a14 a15 : UInt8} (h : l = [a0, a1, a2, a3, a4, a5, a6, a7, a8, a9, a10, a11, a12, a13, a14, a15]) :
    rsPart l 16 = [a0, a1, a2, a3, a5, a6, a7, a4, a10, a11, a8, a9, a15, a12, a13, a14] := by
  subst h; simp only [rsPart, zs16_is]; rfl
theorem shift_law {l : List UInt8} (h : l.length = 16) : shPart l 16 = untPart (rsPart (tabPart l 16) 16) 16 := by
  obtain ⟨a0, a1, a2, a3, a4, a5, a6, a7, a8, a9, a10, a11, a12, a13, a14, a15, rfl⟩ := len16 h
  rw [table_is rfl, rows_is rfl, block_is rfl, shift_is rfl]
attribute [irreducible] shPart unPart tabPart untPart rsPart
end Go.Proofs.Ytcjncidahjneaaa

namespace Go.Proofs.Ytcjncidahjneaaa
open Go.ChangeShapes Go.WideShapes Go.ChangeAt Go.RowKit
/-- So many cells, of which the first are these. -/
def Beg (cur : Array Value) (m : Nat) (xs : List Value) : Prop := cur.size = m ∧ cur.toList.take xs.length = xs
theorem Beg.write {cur : Array Value} {m : Nat} {xs : List Value} (h : Beg cur m xs) (news : List Value) (hm : xs.length + news.length ≤ m) : Beg ((cur.toList.take xs.length ++ (news ++ cur.toList.drop (xs.length + news.length))).toArray) m (xs ++ news) := by
  obtain ⟨h1, h2⟩ := h
  refine ⟨by simp; omega, ?_⟩
  rw [h2]
  show (xs ++ (news ++ _)).take (xs ++ news).length = xs ++ news
  rw [← List.append_assoc]
  exact List.take_left
theorem Beg.nil (cur : Array Value) (m : Nat) (h : cur.size = m) : Beg cur m [] := ⟨h, by simp⟩
theorem Beg.all {cur : Array Value} {m : Nat} {xs : List Value} (h : Beg cur m xs) (hm : xs.length = m) : cur = xs.toArray := by
  obtain ⟨h1, h2⟩ := h
  rw [List.take_of_length_le (by simp; omega)] at h2
  rw [← h2]
theorem Beg.get {cur : Array Value} {m : Nat} {xs : List Value} (h : Beg cur m xs) {i : Nat} {x : Value} (hi : xs[i]? = some x) : cur[i]? = some x := by
  have hil : i < xs.length := (List.getElem?_eq_some_iff.1 hi).1
  have := congrArg (·[i]?) h.2
  simp only [List.getElem?_take, if_pos hil, hi] at this
  simpa using this
theorem Beg.row {cur : Array Value} {m n : Nat} {ks : List (List UInt8)} (h : Beg cur m (flat ks)) (hn : 0 < n) (hk : ∀ k ∈ ks, k.length = n) {i : Nat} {k : List UInt8} (hi : ks[i]? = some k) : i * n + n ≤ csz cur ∧ cut cur (i * n) n = bvs k :=
  row_of_flat hn hk h.2 hi

theorem copy_one' {c : List UInt8} : ∀ v ∈ c.map bv, v.oneCell' = true := fun v hv => by
  obtain ⟨b, _, rfl⟩ := List.mem_map.1 hv
  rfl
/-- **append** within the capacity. -/
theorem wp_append_fits {P : Program} {ops : Array Oper} {rest : List Oper} {o : Oper} {a : Act} {Q : Exit → Act → World → Prop} {w0 w : World} {t e size bytes : Nat} (hE : elemB P t e size bytes = true) (hgd : o.guard = none) {s x : Operand}
    (ho : o.op = .call { callee := .builtin .append, args := #[s, x], argTypes := #[t, t] }) {L : List (Nat × Array Value × TypeId)} (hS : St w0 w L) (i : Nat) {g n cap : Nat} {cur : Array Value} (hi : L[i]? = some (g, cur, e)) (hs : a.eval s = .slice (some ⟨g, 0, none⟩) n cap)
    {ad : Addr} {m c : Nat} {xs news : List Value} (hB : Beg cur (cap * size) xs) (hxl : xs.length = n * size) (hx : a.eval x = .slice (some ad) m c) (hsrc : SrcAt w (.slice (some ad) m c) size m news) (hroom : n + m ≤ cap)
    (h : ∀ cur', Beg cur' (cap * size) (xs ++ news) → St w0 (w.setRow g cur') (L.set i (g, cur', e)) → wpList P ops Q rest (a.put o.dst (.slice (some ⟨g, 0, none⟩) (n + m) cap)) (w.setRow g cur')) : wpList P ops Q (o :: rest) a w := by
  obtain ⟨ht, ie, z, hie, hz, hsz, hby, hzs, hpos⟩ := elemB_iff hE
  obtain ⟨hl, h1, hv⟩ := hsrc
  rcases hv with ⟨h2, _⟩ | ⟨ad2, c2, h2, hnews⟩
  · cases h2
  · simp only [Value.slice.injEq, Option.some.injEq] at h2
    obtain ⟨rfl, _, rfl⟩ := h2
    have hfit : xs.length + news.length ≤ cap * size := by rw [hxl, hl, ← Nat.add_mul]; exact Nat.mul_le_mul_right _ hroom
    refine wpList_plain hgd fun K hK => ?_
    have hrun := run_append_room (P := P) w t o.type e ie ht hie g n cap cur (hS.blk i hi) ad m c news (by rw [hsz]; exact hl) hnews h1 hroom (by rw [hsz, ← hxl, hB.1]; exact hfit)
    rw [hsz, ← hxl, List.append_assoc] at hrun
    have hB2 := hB.write news hfit
    have hS2 := hS.setRow i hi ((cur.toList.take xs.length ++ (news ++ cur.toList.drop (xs.length + news.length))).toArray)
    unfold Oper.wp
    simp [execOp, ho, resolve, invoke, builtin, hs, hx, hrun, Result.andThen]
    exact hK _ _ (h _ hB2 hS2)

/-- **make([]T, n)**. -/
theorem wp_make_full {P : Program} {ops : Array Oper} {rest : List Oper} {o : Oper} {a : Act} {Q : Exit → Act → World → Prop} {w0 w : World} {t e size bytes : Nat} (hE : elemB P t e size bytes = true) (hgd : o.guard = none) {l c : Operand}
    (ho : o.op = .makeSlice t l c) {L : List (Nat × Array Value × TypeId)} (hS : St w0 w L) {kl kc : IntKind} {N C : Int} (n : Nat) (hl : a.eval l = .int kl N) (hc : a.eval c = .int kc C) (hN : N = (n : Int)) (hC : C = (n : Int)) (hb : bytes * n ≤ 281474976710656) (hn : n ≤ maxLen)
    (h : ∀ w' cur, cur.size = n * size → (∀ z, (P.info? e).bind (·.zero) = some z → cur.toList = (madeCells z.cells (n * size)).toList) → St w0 w' ((w.heap.size, cur, e) :: L) → wpList P ops Q rest (a.put o.dst (.slice (some ⟨w.heap.size, 0, none⟩) n n)) w') : wpList P ops Q (o :: rest) a w := by
  obtain ⟨ht, i, z, hi, hz, hsz, hby, _⟩ := elemB_iff hE
  refine wpList_make_full w hgd l c t ho w0.heap.size e i z size ht hi hz hsz kl kc N C n hl hc hN hC (by rw [hby]; exact hb) hn hS.1.size fun w' h1 h2 => ?_
  rcases h1.2 with ⟨h3, _⟩ | ⟨g, cap, cur, h3, h4, h5, h6, h7, h8, h9⟩
  · cases h3
  · simp only [Value.slice.injEq, Option.some.injEq, Addr.mk.injEq, true_and] at h3
    obtain ⟨⟨rfl, _⟩, rfl⟩ := h3
    rw [List.take_of_length_le (by simp; omega)] at h9
    refine h w' cur h8 (fun z' hz' => ?_) ⟨hS.1.trans ⟨h2.os, h2.tape, h2.output, h2.size, fun k hk => h2.block k (by have := hS.1.size; omega) (fun h => by cases h)⟩, fun y hy => ?_, ?_⟩
    · rw [hi] at hz'
      simp only [Option.bind_some, hz, Option.some.injEq] at hz'
      subst hz'
      exact h9
    · rcases List.mem_cons.1 hy with rfl | hy
      · exact ⟨h4, h5⟩
      · exact ⟨(hS.2.1 y hy).1, (h2.block _ (blk_lt (hS.2.1 y hy).2) (fun h => by cases h)).trans (hS.2.1 y hy).2⟩
    · simp only [List.map_cons, List.nodup_cons]
      refine ⟨fun hm => ?_, hS.2.2⟩
      obtain ⟨y, hy, he⟩ := List.mem_map.1 hm
      have := blk_lt (hS.2.1 y hy).2
      omega
theorem Gr.cells0 {w0 wr : World} {e size cap g : Nat} {L : List (Nat × Array Value × TypeId)} (h : Gr w0 wr e size (.slice (some ⟨g, 0, none⟩) 0 cap) 0 [] L) : ∃ cur, cur.size = cap * size ∧ St w0 wr ((g, cur, e) :: L) := by
  obtain ⟨g2, cap2, cur, hv, _, _, hs, _, hS⟩ := h.open (fun h => by cases h)
  simp only [Value.slice.injEq, Option.some.injEq, Addr.mk.injEq, true_and] at hv
  obtain ⟨⟨rfl, _⟩, rfl⟩ := hv
  exact ⟨cur, hs, hS⟩

/-- One of one's blocks, brought to the front. -/
theorem front_mem {α : Type} : ∀ {L : List α} {i : Nat} {x : α}, L[i]? = some x → ∀ y, y ∈ x :: L.eraseIdx i ↔ y ∈ L
  | [], i, x, h, y => by simp at h
  | a :: L, 0, x, h, y => by simp at h; subst h; simp
  | a :: L, i + 1, x, h, y => by
    have ih := front_mem (L := L) (i := i) (x := x) (by simpa using h) y
    simp only [List.eraseIdx_cons_succ, List.mem_cons] at ih ⊢
    constructor
    · rintro (h1 | h1 | h1)
      · exact .inr (ih.1 (.inl h1))
      · exact .inl h1
      · exact .inr (ih.1 (.inr h1))
    · rintro (h1 | h1)
      · exact .inr (.inl h1)
      · rcases ih.2 h1 with h2 | h2
        · exact .inl h2
        · exact .inr (.inr h2)
theorem front_nodup : ∀ {L : List (Nat × Array Value × TypeId)} {i : Nat} {x : Nat × Array Value × TypeId}, L[i]? = some x → (L.map (·.1)).Nodup → ((x :: L.eraseIdx i).map (·.1)).Nodup
  | [], i, x, h, _ => by simp at h
  | a :: L, 0, x, h, hn => by simp at h; subst h; simpa using hn
  | a :: L, i + 1, x, h, hn => by
    have hx : L[i]? = some x := by simpa using h
    simp only [List.map_cons, List.nodup_cons] at hn
    have ih := front_nodup (L := L) hx hn.2
    simp only [List.map_cons, List.nodup_cons, List.eraseIdx_cons_succ] at ih ⊢
    have hne : x.1 ≠ a.1 := fun e => hn.1 (e ▸ List.mem_map.2 ⟨x, List.mem_of_getElem? hx, rfl⟩)
    refine ⟨?_, ?_, ih.2⟩
    · simp only [List.mem_cons, not_or]
      exact ⟨hne, ih.1⟩
    · intro hm
      obtain ⟨y, hy, he⟩ := List.mem_map.1 hm
      exact hn.1 (List.mem_map.2 ⟨y, (front_mem hx y).1 (List.mem_cons_of_mem _ hy), he⟩)
theorem St.front {w0 wr : World} {L : List (Nat × Array Value × TypeId)} (h : St w0 wr L) (i : Nat) {x : Nat × Array Value × TypeId} (hi : L[i]? = some x) : St w0 wr (x :: L.eraseIdx i) :=
  ⟨h.1, fun y hy => h.2.1 y ((front_mem hi y).1 hy), front_nodup hi h.2.2⟩

/-- **append** to a slice of one's own, its block among the others. -/
theorem wp_append_at {P : Program} {ops : Array Oper} {rest : List Oper} {o : Oper} {a : Act} {Q : Exit → Act → World → Prop} {w0 w : World} {t e size bytes : Nat} (hE : elemB P t e size bytes = true) (hgd : o.guard = none) {s x : Operand}
    (ho : o.op = .call { callee := .builtin .append, args := #[s, x], argTypes := #[t, t] }) {L : List (Nat × Array Value × TypeId)} (hS : St w0 w L) (i : Nat) {g n cap : Nat} {cur : Array Value} (hi : L[i]? = some (g, cur, e)) (hs : a.eval s = .slice (some ⟨g, 0, none⟩) n cap)
    {xs : List Value} (hB : Beg cur (cap * size) xs) (hxl : xs.length = n * size) (hnc : n ≤ cap) (hcm : cap ≤ maxLen) {vx : Value} {m : Nat} {news : List Value} (hx : a.eval x = vx) (hsrc : SrcAt w vx size m news) (h63 : n + m ≤ maxLen) (hbytes : (n + m) * bytes ≤ 140737488355328)
    (h : ∀ g' cap' cur' w', Beg cur' (cap' * size) (xs ++ news) → n + m ≤ cap' → cap' ≤ maxLen → St w0 w' ((g', cur', e) :: L.eraseIdx i) → wpList P ops Q rest (a.put o.dst (.slice (some ⟨g', 0, none⟩) (n + m) cap')) w') : wpList P ops Q (o :: rest) a w := by
  have hG := Gr.of (size := size) (n := n) (cap := cap) (hS.front i hi) hnc hcm hB.1
  rw [← hxl, hB.2] at hG
  refine wp_append hE hgd ho hG hs hx hsrc h63 hbytes fun v' w' hG' hnil => ?_
  obtain ⟨g', cap', cur', hv, h1, h2, h3, h4, h5⟩ := hG'.open (fun hv => by have := (hnil.1 hv).1; cases this)
  rw [hv]
  have hl := hG'.own.1
  exact h g' cap' cur' w' ⟨h3, by rw [hl]; exact h4⟩ h1 h2 h5
/-- **append** to a nil slice, at least one element. -/
theorem wp_append_nil {P : Program} {ops : Array Oper} {rest : List Oper} {o : Oper} {a : Act} {Q : Exit → Act → World → Prop} {w0 w : World} {t e size bytes : Nat} (hE : elemB P t e size bytes = true) (hgd : o.guard = none) {s x : Operand}
    (ho : o.op = .call { callee := .builtin .append, args := #[s, x], argTypes := #[t, t] }) {L : List (Nat × Array Value × TypeId)} (hS : St w0 w L) (hs : a.eval s = .slice none 0 0)
    {vx : Value} {m : Nat} (hm : 0 < m) {news : List Value} (hx : a.eval x = vx) (hsrc : SrcAt w vx size m news) (h63 : m ≤ maxLen) (hbytes : m * bytes ≤ 140737488355328)
    (h : ∀ g' cap' cur' w', Beg cur' (cap' * size) news → m ≤ cap' → cap' ≤ maxLen → St w0 w' ((g', cur', e) :: L) → wpList P ops Q rest (a.put o.dst (.slice (some ⟨g', 0, none⟩) m cap')) w') : wpList P ops Q (o :: rest) a w := by
  refine wp_append hE hgd ho (Gr.nil (e := e) (size := size) hS) hs hx hsrc (by omega) (by rw [Nat.zero_add]; exact hbytes) fun v' w' hG' hnil => ?_
  rw [Nat.zero_add, List.nil_append] at hG'
  obtain ⟨g', cap', cur', hv, h1, h2, h3, h4, h5⟩ := hG'.open (fun hv => by have := (hnil.1 hv).2; omega)
  rw [hv]
  have hl := hG'.own.1
  exact h g' cap' cur' w' ⟨h3, by rw [hl]; exact h4⟩ h1 h2 h5

end Go.Proofs.Ytcjncidahjneaaa

namespace Go.Proofs.Ytcjncidahjneaaa
open Go.ChangeShapes Go.WideShapes Go.ChangeAt Go.RowKit
/-- Cells written over from a place on. -/
def ovw (cur : Array Value) (o : Nat) (l : List UInt8) : Array Value := (cur.toList.take o ++ (l.map bv ++ cur.toList.drop (o + l.length))).toArray
theorem ovw_size {cur : Array Value} {o : Nat} {l : List UInt8} (h : o + l.length ≤ cur.size) : (ovw cur o l).size = cur.size := by
  unfold ovw; simp; omega
theorem ovw_nil (cur : Array Value) (o : Nat) : ovw cur o [] = cur := by
  unfold ovw; simp
theorem ovw_snoc {cur : Array Value} {o : Nat} {l : List UInt8} (h : o + l.length < cur.size) (b : UInt8) : (ovw cur o l).setIfInBounds (o + l.length) (bv b) = ovw cur o (l ++ [b]) := by
  have h1 : (cur.toList.take o).length = o := by simp; omega
  have h2 : o + l.length < cur.toList.length := by simpa using h
  unfold ovw
  rw [List.setIfInBounds_toArray, List.set_append_right _ _ (by omega), h1, Nat.add_sub_cancel_left, List.set_append_right _ _ (by simp), List.length_map, Nat.sub_self, List.drop_eq_getElem_cons h2, List.set_cons_zero]
  simp [Nat.add_assoc]
theorem ovw_at {cur : Array Value} {o : Nat} {l : List UInt8} (h : o + l.length ≤ cur.size) (j : Nat) : (ovw cur o l)[j]? = if o ≤ j ∧ j < o + l.length then (l[j - o]?).map bv else cur[j]? := by
  unfold ovw
  simp only [List.getElem?_toArray, List.getElem?_append, List.length_take, List.length_map, Array.length_toList, List.getElem?_take, List.getElem?_map, List.getElem?_drop]
  have e : min o cur.size = o := by omega
  rw [e]
  by_cases h1 : j < o
  · rw [if_pos h1, if_pos h1, if_neg (by omega)]; simp
  · rw [if_neg h1]
    by_cases h2 : j - o < l.length
    · rw [if_pos h2, if_pos (by omega)]
    · rw [if_neg h2, if_neg (by omega), show o + l.length + (j - o - l.length) = j by omega]; simp
theorem ovw_bvs (x l : List UInt8) (o : Nat) : ovw (bvs x) o l = bvs (x.take o ++ (l ++ x.drop (o + l.length))) := by
  unfold ovw bvs
  simp [List.map_take, List.map_drop]
/-- A number's bytes, the lowest first. -/
def leB (n : Nat) : Nat → List UInt8
  | 0 => []
  | k + 1 => leB n k ++ [UInt8.ofNat (n / 256 ^ k)]
theorem leB_zero (n : Nat) : leB n 0 = [] := rfl
theorem leB_succ (n k : Nat) : leB n (k + 1) = leB n k ++ [UInt8.ofNat (n / 256 ^ k)] := rfl
theorem leB_len (n k : Nat) : (leB n k).length = k := by
  induction k with
  | zero => rfl
  | succ k ih => simp [leB_succ, ih]
theorem leB_cons (n k : Nat) : leB n (k + 1) = UInt8.ofNat n :: leB (n / 256) k := by
  induction k with
  | zero => simp [leB]
  | succ k ih =>
    rw [leB_succ, ih, leB_succ (n / 256) k, List.cons_append, Nat.div_div_eq_div_mul, Nat.pow_succ, Nat.mul_comm]
/-- A number out of bytes, the lowest first. -/
def leN : List UInt8 → Nat
  | [] => 0
  | b :: l => b.toNat + 256 * leN l
theorem leN_lt : ∀ l : List UInt8, leN l < 256 ^ l.length
  | [] => by simp [leN]
  | b :: l => by
    have h := leN_lt l
    have hb := b.toNat_lt
    simp only [leN, List.length_cons, Nat.pow_succ]
    omega
theorem leN_leB (n k : Nat) : leN (leB n k) = n % 256 ^ k := by
  induction k generalizing n with
  | zero => simp [leB, leN, Nat.mod_one]
  | succ k ih =>
    rw [leB_cons, leN, ih]
    rw [Nat.pow_succ, Nat.mul_comm (256 ^ k) 256, Nat.mod_mul]
    simp
theorem leB_leN : ∀ l : List UInt8, leB (leN l) l.length = l
  | [] => rfl
  | b :: l => by
    have hb := b.toNat_lt
    rw [List.length_cons, leB_cons, leN]
    rw [show (b.toNat + 256 * leN l) / 256 = leN l by omega, leB_leN l]
    congr 1
    apply UInt8.toNat_inj.1
    rw [UInt8.toNat_ofNat']
    omega
theorem ovw_cons {cur : Array Value} {o : Nat} {l : List UInt8} (h : o + 1 + l.length ≤ cur.size) (b : UInt8) : (ovw cur (o + 1) l).setIfInBounds o (bv b) = ovw cur o (b :: l) := by
  have ho : o < cur.toList.length := by simp; omega
  have h1 : (cur.toList.take o).length = o := by simp; omega
  unfold ovw
  rw [List.take_succ_eq_append_getElem ho, List.append_assoc, List.setIfInBounds_toArray, List.set_append_right _ _ (by omega), h1, Nat.sub_self, List.length_cons, show o + (l.length + 1) = o + 1 + l.length by omega]
  rfl
/-- A number's bytes, and a number out of bytes, the highest first. -/
def beB (n k : Nat) : List UInt8 := (leB n k).reverse
def beN (l : List UInt8) : Nat := leN l.reverse
theorem beB_zero (n : Nat) : beB n 0 = [] := rfl
theorem beB_succ (n k : Nat) : beB n (k + 1) = UInt8.ofNat (n / 256 ^ k) :: beB n k := by
  unfold beB; rw [leB_succ, List.reverse_append]; rfl
theorem beB_len (n k : Nat) : (beB n k).length = k := by unfold beB; rw [List.length_reverse, leB_len]
theorem beN_snoc (l : List UInt8) (b : UInt8) : beN (l ++ [b]) = b.toNat + 256 * beN l := by
  unfold beN; rw [List.reverse_append]; rfl
theorem beN_nil : beN [] = 0 := rfl
theorem beN_lt (l : List UInt8) : beN l < 256 ^ l.length := by
  have := leN_lt l.reverse
  rwa [List.length_reverse] at this
theorem beB_beN (l : List UInt8) : beB (beN l) l.length = l := by
  unfold beB beN
  have := leB_leN l.reverse
  rw [List.length_reverse] at this
  rw [this, List.reverse_reverse]
theorem beN_beB (n k : Nat) : beN (beB n k) = n % 256 ^ k := by
  unfold beB beN
  rw [List.reverse_reverse, leN_leB]
attribute [irreducible] ovw leB leN beB beN
end Go.Proofs.Ytcjncidahjneaaa

namespace Go.Proofs.Ytcjncidahjneaaa
open Go.ChangeShapes Go.WideShapes Go.ChangeAt Go.RowKit
set_option maxRecDepth 100000 in
set_option maxHeartbeats 1000000 in
theorem putBig_any (g off n c : Nat) (cur : Array Value) (t : TypeId) (x : Nat) (w : World) (hb : blk w g = some (.cells cur t (0, 0))) (hfit : off + n ≤ csz cur) (hn : n ≤ 1000000000) (_hc : c ≤ maxLen) :
    Calls Try.prog 32 #[.slice (some ⟨g, off, none⟩) n c, .int .u64 x] w fun e w' => e = .returned (.tuple #[]) ∧ w' = w.setRow g (ovw cur off (beB x n)) := by
  rw [← put_is_setRow hb]
  have H0 : Hid (w = putRow w g cur t) := hid (put_self hb)
  have hlt := blk_lt hb
  clear hb
  rw [csz_is] at hfit
  go_enter Try.func32, Try.ntmps32
  go_wp2_with fail
  go_loopw [1, 4] (fun u1 i wr => ∃ k : Nat, k ≤ n ∧ i = .int .i64 ((n : Int) - 1 - k) ∧ u1 = .int .u64 ((x / 256 ^ k : Nat) : Int) ∧ wr = putRow w g (ovw cur (off + n - k) (beB x k)) t)
    (fun _ i _ => (intOf i + 1).toNat)
  case atStart => exact ⟨0, by omega, by simp, by simp, by rw [beB_zero, ovw_nil]; exact H0.out⟩
  case round =>
    obtain ⟨k, hk, rfl, rfl, rfl⟩ := hrel
    by_cases hkn : k < n
    · have hl : (beB x k).length = k := beB_len x k
      obtain ⟨m, hm⟩ : ∃ m, n = k + 1 + m := ⟨n - (k + 1), by omega⟩
      have e1 : off + n - k = off + m + 1 := by omega
      have e2 : (n : Int) - 1 - k = (m : Int) := by omega
      have e3 : off + n - (k + 1) = off + m := by omega
      obtain ⟨v0, hv0⟩ : ∃ v0, (ovw cur (off + m + 1) (beB x k))[off + m]? = some v0 := ⟨_, Array.getElem?_eq_getElem (by rw [ovw_size (by omega)]; omega)⟩
      have hs := ovw_cons (cur := cur) (o := off + m) (l := beB x k) (by omega) (UInt8.ofNat (x / 256 ^ k))
      rw [← beB_succ] at hs
      have hd : x / 256 ^ (k + 1) = x / 256 ^ k / 256 := by rw [Nat.pow_succ, Nat.div_div_eq_div_mul]
      have hbv : bv (UInt8.ofNat (x / 256 ^ k)) = .int .u8 (((x / 256 ^ k : Nat) : Int) % 256) := by simp [bv]
      rw [hbv] at hs
      rw [e1, e2]
      have hmn : (m : Int) < (n : Int) := by omega
      have HS := hid hs; have HD := hid hd; have HM := hid hm; have H3 := hid e3
      clear hl hs hd hbv hm e1 e2 e3 H0
      generalize x / 256 ^ k = y at *
      go_wp2
      go_roundw
      case rel => exact ⟨k + 1, by omega, by rw [HM.out]; congr 1; omega, by rw [HD.out]; rfl, by rw [H3.out, ← HS.out]⟩
      case measure => simp [intOf]
    · obtain rfl : k = n := by omega
      rw [show (k : Int) - 1 - k = -1 by omega, show off + k - k = off by omega]
      go_wp2
      go_end0
      exact ⟨rfl, rfl⟩
theorem or_byte (y c : Nat) (hc : c < 256) : y * 256 ||| c = y * 256 + c := by
  have := Nat.two_pow_add_eq_or_of_lt (i := 8) (b := c) (by omega) y
  rw [Nat.mul_comm] at this
  exact this.symm
theorem BytesAt.cell {w : World} {p : Option Addr} {n c : Nat} {l : List UInt8} (h : BytesAt w (.slice p n c) l) {i : Nat} {x : UInt8} (hi : l[i]? = some x) : ∃ b o, p = some ⟨b, o, none⟩ ∧ w.cell? ⟨b, o + i, none⟩ = some (.int .u8 (x.toNat : Int)) ∧ b < w.heap.size := by
  obtain ⟨p', c', hv, h1, _, h3⟩ := h
  simp only [Value.slice.injEq] at hv
  obtain ⟨rfl, _, _⟩ := hv
  obtain ⟨b, o, cs, t, e, hp, hb, hx⟩ := h3 (by intro h; subst h; simp at hi)
  exact ⟨b, o, hp, by rw [cell_of_row w b (o + i) cs t e hb, hx i x hi]; rfl, blk_lt hb⟩
theorem BytesAt.slice {w : World} {v : Value} {l : List UInt8} (h : BytesAt w v l) : ∃ p c, v = .slice p l.length c ∧ l.length ≤ c := by
  obtain ⟨p, c, hv, h1, _, _⟩ := h
  exact ⟨p, c, hv, h1⟩
theorem or_u64 (y d : Nat) (hy : y < 72057594037927936) (hd : d < 256) : bits .or .u64 ((y : Int) * 256) (d : Int) = ((y * 256 + d : Nat) : Int) := by
  have h := u64_or_nat (y * 256) d (by omega) (by omega)
  rw [or_byte y d hd] at h
  rw [← h]
  simp
theorem leN_drop {l : List UInt8} {i : Nat} {x : UInt8} (hi : l[i]? = some x) : leN (l.drop i) = leN (l.drop (i + 1)) * 256 + x.toNat := by
  obtain ⟨h, rfl⟩ := List.getElem?_eq_some_iff.1 hi
  rw [List.drop_eq_getElem_cons h, leN]
  omega
theorem beN_take {l : List UInt8} {i : Nat} {x : UInt8} (hi : l[i]? = some x) : beN (l.take (i + 1)) = beN (l.take i) * 256 + x.toNat := by
  obtain ⟨h, rfl⟩ := List.getElem?_eq_some_iff.1 hi
  rw [List.take_succ_eq_append_getElem h, beN_snoc]
  omega
set_option maxRecDepth 100000 in
set_option maxHeartbeats 1000000 in
theorem big_any (v : Value) (l : List UInt8) (w : World) (hv : BytesAt w v l) (hl : l.length ≤ 8) :
    Calls Try.prog 35 #[v] w fun e w' => e = .returned (.int .u64 (beN l)) ∧ w = w' := by
  obtain ⟨p, c, rfl, hc⟩ := hv.slice
  have HV := hid hv
  have hlt : ∀ i, i < l.length → beN (l.take i) < 256 ^ i := fun i hi => by have := beN_lt (l.take i); rwa [List.length_take, Nat.min_eq_left (by omega)] at this
  have HL := hid hlt
  have H0 := hid (show beN (l.take 0) = 0 by rw [List.take_zero, beN_nil])
  have HE := hid (show beN (l.take l.length) = beN l by rw [List.take_length])
  obtain ⟨n, hn⟩ : ∃ n, n = l.length := ⟨_, rfl⟩
  rw [← hn] at hl HL HE HV hc ⊢
  have HN := hid hn
  clear hv hlt hn
  go_enter Try.func35, Try.ntmps35
  go_wp2_with fail
  go_loop [3, 5, 8] (fun u3 u5 i => ∃ k : Nat, k ≤ n ∧ i = .int .i64 (k : Int) ∧ u3 = .int .u64 ((beN (l.take k) : Nat) : Int)) (fun _ _ i => n - (intOf i).toNat)
  case atStart => exact ⟨0, by omega, by simp, by rw [H0.out]; rfl⟩
  case round =>
    obtain ⟨m, hk, rfl, rfl⟩ := hrel
    by_cases hk0 : m < n
    · have hx : l[m]? = some (l.getD m 0) := get_some (by rw [← HN.out]; omega)
      obtain ⟨b, o, rfl, hcell, _⟩ := HV.out.cell hx
      have hs := hid (beN_take hx)
      have h1 := HL.out m hk0
      have hb := (l.getD m 0).toNat_lt
      have hp : 256 ^ m ≤ 256 ^ 7 := Nat.pow_le_pow_right (by omega) (by omega)
      have h2 : beN (l.take m) < 72057594037927936 := by omega
      have ho := hid (or_u64 (beN (l.take m)) _ h2 hb)
      clear hx h1 hp
      generalize (l.getD m 0).toNat = d at *
      generalize beN (l.take m) = y at *
      go_wp2
      go_round
      case rel => exact ⟨m + 1, by omega, by go_num, by rw [hs.out, ho.out]⟩
      case measure => simp [intOf]; omega
    · obtain rfl : m = n := by omega
      go_wp2
      go_ret
      exact ⟨by rw [← HE.out]; rfl, rfl⟩
end Go.Proofs.Ytcjncidahjneaaa

namespace Go.Proofs.Ytcjncidahjneaaa
open Go.ChangeShapes Go.WideShapes Go.ChangeAt Go.RowKit
theorem leN_nil : leN [] = 0 := by unfold leN; rfl
theorem leN_cons (b : UInt8) (l : List UInt8) : leN (b :: l) = b.toNat + 256 * leN l := by rw [leN]
theorem leN_append : ∀ (a b : List UInt8), leN (a ++ b) = leN a + 256 ^ a.length * leN b
  | [], b => by simp [leN_nil]
  | x :: a, b => by
    rw [List.cons_append, leN_cons, leN_cons, leN_append a b, List.length_cons, Nat.pow_succ, Nat.mul_add, Nat.mul_comm (256 ^ a.length) 256, Nat.mul_assoc]
    omega
theorem leB_append (a b : Nat) : ∀ (j k : Nat), a < 256 ^ j → leB (a + 256 ^ j * b) (j + k) = leB a j ++ leB b k
  | 0, k, h => by
    simp only [Nat.pow_zero, Nat.lt_one_iff] at h
    subst h
    simp [leB_zero]
  | j + 1, k, h => by
    have h1 : a / 256 < 256 ^ j := by
      rw [Nat.div_lt_iff_lt_mul (by omega)]
      rwa [Nat.pow_succ] at h
    have ih := leB_append (a / 256) b j k h1
    rw [show j + 1 + k = (j + k) + 1 by omega, leB_cons, leB_cons, List.cons_append]
    have e1 : (a + 256 ^ (j + 1) * b) / 256 = a / 256 + 256 ^ j * b := by
      rw [Nat.pow_succ, Nat.mul_comm (256 ^ j) 256, Nat.mul_assoc, Nat.add_mul_div_left _ _ (by omega)]
    rw [e1, ih]
    congr 1
    apply UInt8.toNat_inj.1
    rw [UInt8.toNat_ofNat', UInt8.toNat_ofNat', Nat.pow_succ, Nat.mul_comm (256 ^ j) 256, Nat.mul_assoc]
    omega
/-- A block's number doubled. -/
def dblN (n : Nat) : Nat := (2 * n % 2 ^ 128) ^^^ (if 2 ^ 127 ≤ n then 0x87 else 0)
def dblB (k : List UInt8) : List UInt8 := leB (dblN (leN k)) 16
theorem dblB_len (k : List UInt8) : (dblB k).length = 16 := leB_len _ _
theorem xor_low {a c : Nat} (b : Nat) (hc : c < 2 ^ 64) (ha : a < 2 ^ 64) : (a + 2 ^ 64 * b) ^^^ c = (a ^^^ c) + 2 ^ 64 * b := by
  have hx : a ^^^ c < 2 ^ 64 := Nat.xor_lt_two_pow ha hc
  have h1 : ((a + 2 ^ 64 * b) ^^^ c) % 2 ^ 64 = a ^^^ c := by
    rw [Nat.xor_mod_two_pow, Nat.add_mul_mod_self_left, Nat.mod_eq_of_lt ha, Nat.mod_eq_of_lt hc]
  have h2 : ((a + 2 ^ 64 * b) ^^^ c) / 2 ^ 64 = b := by
    rw [Nat.xor_div_two_pow, Nat.add_mul_div_left _ _ (by omega), Nat.div_eq_of_lt ha, Nat.div_eq_of_lt hc]
    simp
  have := Nat.div_add_mod ((a + 2 ^ 64 * b) ^^^ c) (2 ^ 64)
  rw [h1, h2] at this
  omega
theorem or_one {a b : Nat} (hb : b < 2) : 2 * a ||| b = 2 * a + b := by
  have := Nat.two_pow_add_eq_or_of_lt (i := 1) (b := b) (by omega) a
  rw [Nat.pow_one] at this
  exact this.symm
theorem dbl_halves {lo hi : Nat} (h1 : lo < 2 ^ 64) (h2 : hi < 2 ^ 64) :
    dblN (lo + 2 ^ 64 * hi) = ((2 * lo % 2 ^ 64) ^^^ (0x87 * (hi / 2 ^ 63))) + 2 ^ 64 * ((2 * hi % 2 ^ 64) ||| (lo / 2 ^ 63)) := by
  have e0 : 2 * hi % 2 ^ 64 = 2 * (hi % 2 ^ 63) := by omega
  rw [e0, or_one (by omega)]
  have e1 : 2 * (lo + 2 ^ 64 * hi) % 2 ^ 128 = 2 * lo % 2 ^ 64 + 2 ^ 64 * (2 * (hi % 2 ^ 63) + lo / 2 ^ 63) := by omega
  have e2 : (if 2 ^ 127 ≤ lo + 2 ^ 64 * hi then 0x87 else 0) = 0x87 * (hi / 2 ^ 63) := by
    by_cases h : 2 ^ 127 ≤ lo + 2 ^ 64 * hi
    · rw [if_pos h]; omega
    · rw [if_neg h]; omega
  unfold dblN
  rw [e1, e2]
  exact xor_low _ (by omega) (by omega)
theorem dblB_halves {k : List UInt8} (hk : k.length = 16) :
    dblB k = leB ((2 * leN (k.take 8) % 2 ^ 64) ^^^ (0x87 * (leN (k.drop 8) / 2 ^ 63))) 8 ++ leB ((2 * leN (k.drop 8) % 2 ^ 64) ||| (leN (k.take 8) / 2 ^ 63)) 8 := by
  have h1 := leN_lt (k.take 8)
  have h2 := leN_lt (k.drop 8)
  have l1 : (k.take 8).length = 8 := by simp; omega
  have l2 : (k.drop 8).length = 8 := by simp; omega
  rw [l1] at h1
  rw [l2] at h2
  have e : leN k = leN (k.take 8) + 2 ^ 64 * leN (k.drop 8) := by
    have := leN_append (k.take 8) (k.drop 8)
    rw [List.take_append_drop, l1] at this
    exact this
  unfold dblB
  rw [e, dbl_halves h1 h2]
  have h3 : (2 * leN (k.take 8) % 2 ^ 64) ^^^ (0x87 * (leN (k.drop 8) / 2 ^ 63)) < 2 ^ 64 := Nat.xor_lt_two_pow (by omega) (by omega)
  exact leB_append _ _ 8 8 h3
attribute [irreducible] dblN dblB
end Go.Proofs.Ytcjncidahjneaaa

namespace Go.Proofs.Ytcjncidahjneaaa
open Go.ChangeShapes Go.WideShapes Go.ChangeAt Go.RowKit
theorem below_of_same {P : Program} {f : FuncId} {args : Array Value} {v : Value} {w : World} (h : Calls P f args w fun e w' => e = .returned v ∧ w = w') : Calls P f args w fun e w' => e = .returned v ∧ Below w.heap.size w w' :=
  h.mono fun _ _ ⟨he, hw⟩ => ⟨he, hw ▸ Below.refl _ _⟩
theorem bytesAt_blk {w : World} {g o n c : Nat} {cs : Array Value} {t : TypeId} {fr : Nat × Nat} {l : List UInt8} (hg : blk w g = some (.cells cs t fr)) (hn : l.length = n) (hc : n ≤ c) (h : ∀ i x, l[i]? = some x → cs[o + i]? = some (bv x)) : BytesAt w (.slice (some ⟨g, o, none⟩) n c) l := by
  subst hn
  exact ⟨_, c, rfl, hc, (fun h => by cases h), fun _ => ⟨g, o, cs, t, fr, rfl, hg, h⟩⟩
theorem bytesAt_bvs {w : World} {g o n c : Nat} {L : List UInt8} {t : TypeId} {fr : Nat × Nat} (hg : blk w g = some (.cells (bvs L) t fr)) (hL : o + n ≤ L.length) (hc : n ≤ c) : BytesAt w (.slice (some ⟨g, o, none⟩) n c) ((L.drop o).take n) := by
  refine bytesAt_blk hg (by simp; omega) hc fun i x hi => ?_
  simp only [List.getElem?_take, List.getElem?_drop] at hi
  split at hi
  · exact bvs_at hi
  · cases hi
theorem wrap_two (x : Nat) : IntKind.u64.wrap ((x : Int) * 2) = ((2 * x % 2 ^ 64 : Nat) : Int) := by rw [IntKind.wrap_u64]; omega
theorem dbl_lo (lo hi : Nat) (_h1 : lo < 18446744073709551616) (h2 : hi < 18446744073709551616) :
    bits .xor .u64 (IntKind.u64.wrap ((lo : Int) * 2)) (135 * ((hi : Int) / 9223372036854775808)) = ((2 * lo % 2 ^ 64 ^^^ 135 * (hi / 2 ^ 63) : Nat) : Int) := by
  have e : (135 : Int) * ((hi : Int) / 9223372036854775808) = ((135 * (hi / 2 ^ 63) : Nat) : Int) := by simp
  rw [wrap_two, e, u64_xor_nat _ _ (by omega) (by omega)]
theorem dbl_hi (lo hi : Nat) (h1 : lo < 18446744073709551616) (_h2 : hi < 18446744073709551616) :
    bits .or .u64 (IntKind.u64.wrap ((hi : Int) * 2)) ((lo : Int) / 9223372036854775808) = ((2 * hi % 2 ^ 64 ||| lo / 2 ^ 63 : Nat) : Int) := by
  have e : ((lo : Int) / 9223372036854775808) = ((lo / 2 ^ 63 : Nat) : Int) := by simp
  rw [wrap_two, e, u64_or_nat _ _ (by omega) (by omega)]
end Go.Proofs.Ytcjncidahjneaaa

namespace Go.Proofs.Ytcjncidahjneaaa
open Go.ChangeShapes Go.WideShapes Go.ChangeAt Go.RowKit
theorem setRow_self {w : World} {g : Nat} {cs : Array Value} {t : TypeId} (h : blk w g = some (.cells cs t (0, 0))) : w.setRow g cs = w := by
  have := put_self h
  rw [← put_is_setRow h]; exact this.symm
theorem run_copy_bytes {P : Program} (w : World) (dT sT ty elem : TypeId) (hu : P.underlying dT = some (.slice elem)) (hs : (P.info? elem).map (·.size) = some 1) {g off dLen dCap : Nat} {cur : Array Value} {t : TypeId} {sv : Value} {L : List UInt8}
    (hg : blk w g = some (.cells cur t (0, 0))) (hS : BytesAt w sv L) (hfit : off + (L.take dLen).length ≤ csz cur) :
    (Builtin.copy_ #[dT, sT] ty #[.slice (some ⟨g, off, none⟩) dLen dCap, sv]).run P w = .ok (.int .i64 ((L.take dLen).length : Int)) (w.setRow g (ovw cur off (L.take dLen))) := by
  obtain ⟨p, c, rfl, hc, h0, h3⟩ := hS
  have hlen : ((L.take dLen).map bv).length = Nat.min L.length dLen := by simp [Nat.min_comm]
  by_cases hz : L.take dLen = []
  · have hmin : Nat.min L.length dLen = 0 := by rw [← hlen, hz]; rfl
    rw [run_copy_none w dT sT ty elem (some ⟨g, off, none⟩) p dLen dCap L.length c hu hs hmin, hz, ovw_nil, setRow_self hg]
    rfl
  · have hne : L ≠ [] := fun e => hz (by rw [e, List.take_nil])
    obtain ⟨b, o, cs, t2, fr, rfl, hb, hx⟩ := h3 hne
    have := run_copy_row (P := P) w dT sT ty elem g off dLen dCap ⟨b, o, none⟩ L.length c cur t ((L.take dLen).map bv) hu hs hg hlen (fun j v hj => by
      rw [add_addr, cell_of_row w b (o + j) cs t2 fr hb]
      simp only [List.getElem?_map, List.getElem?_take] at hj
      split at hj
      · cases hl : L[j]? with
        | none => simp [hl] at hj
        | some x => simp [hl] at hj; subst hj; exact hx j x hl
      · simp at hj) (by rw [List.length_map, ← csz_is]; exact hfit) copy_one'
    rw [this]
    congr 1
    · simp [goInt]
    · congr 1
      unfold ovw
      simp
theorem wp_copy {P : Program} {ops : Array Oper} {rest : List Oper} {o : Oper} {a : Act} {Q : Exit → Act → World → Prop} {w : World} (hgd : o.guard = none) {d s : Operand} {dT sT elem : TypeId} (ho : o.op = .call { callee := .builtin .copy, args := #[d, s], argTypes := #[dT, sT] })
    (hu : P.underlying dT = some (.slice elem)) (hsz : (P.info? elem).map (·.size) = some 1) {g off dLen dCap : Nat} {cur : Array Value} {t : TypeId} {sv : Value} {L : List UInt8} (hd : a.eval d = .slice (some ⟨g, off, none⟩) dLen dCap) (hs : a.eval s = sv)
    (hg : blk w g = some (.cells cur t (0, 0))) (hS : BytesAt w sv L) (hfit : off + (L.take dLen).length ≤ csz cur)
    (h : wpList P ops Q rest (a.put o.dst (.int .i64 ((L.take dLen).length : Int))) (w.setRow g (ovw cur off (L.take dLen)))) : wpList P ops Q (o :: rest) a w := by
  refine wpList_plain hgd fun K hK => ?_
  have hrun := run_copy_bytes (P := P) w dT sT o.type elem hu hsz (dCap := dCap) hg hS hfit
  unfold Oper.wp
  simp [execOp, ho, resolve, invoke, builtin, hd, hs, hrun, Result.andThen]
  exact hK _ _ (by simpa using h)
theorem wpIn_copy {F : Fence} {n : Nat} {P : Program} {ops : Array Oper} {rest : List Oper} {o : Oper} {a : Act} {Q : Exit → Act → World → Prop} {w : World} (hgd : o.guard = none) {d s : Operand} {dT sT elem : TypeId} (ho : o.op = .call { callee := .builtin .copy, args := #[d, s], argTypes := #[dT, sT] })
    (hu : P.underlying dT = some (.slice elem)) (hsz : (P.info? elem).map (·.size) = some 1) {g off dLen dCap : Nat} {cur : Array Value} {t : TypeId} {sv : Value} {L : List UInt8} (hd : a.eval d = .slice (some ⟨g, off, none⟩) dLen dCap) (hs : a.eval s = sv)
    (hg : blk w g = some (.cells cur t (0, 0))) (hS : BytesAt w sv L) (hfit : off + (L.take dLen).length ≤ csz cur)
    (h : wpListIn F n P ops Q rest (a.put o.dst (.int .i64 ((L.take dLen).length : Int))) (w.setRow g (ovw cur off (L.take dLen)))) : wpListIn F n P ops Q (o :: rest) a w := by
  refine wpListIn_plain hgd fun K hK => ?_
  have hrun := run_copy_bytes (P := P) w dT sT o.type elem hu hsz (dCap := dCap) hg hS hfit
  unfold Oper.wpIn
  refine ⟨?_, ?_⟩
  · simp [Oper.about, ho, resolve, Target.leads, Sem.run_pure]
  · rw [Oper.semAt_plain F _ _ (by rw [ho]; intro c hc'; cases hc')]
    simp [execOp, ho, resolve, invoke, builtin, hd, hs, hrun, Result.andThen]
    exact hK _ _ (by simpa using h)
theorem made_noughts (n : Nat) : madeCells (Value.int .u8 0).cells n = bvs (zs n) := by
  apply Array.ext_getElem?
  intro i
  by_cases h : i < n
  · rw [zs_one n i h]
    have : (madeCells (Value.int .u8 0).cells n)[i]? = some ((Value.int .u8 0).cells[i % (Value.int .u8 0).cells.size]!) := by simp [madeCells, h]
    rw [this]
    have e : i % (Value.int .u8 0).cells.size = 0 := by show i % 1 = 0; omega
    rw [e]; rfl
  · rw [Array.getElem?_eq_none (by rw [size_madeCells]; omega), Array.getElem?_eq_none (by rw [bvs_size, zs_len]; omega)]
@[go_sem ↓] theorem run_makeBytes (kl kc : IntKind) (l c : Int) (h0 : 0 ≤ l) (hlc : l ≤ c) (hb : c ≤ 281474976710656) (w : World) :
    (Instr.makeSlice 22 (.int kl l) (.int kc c)).run Try.prog w = .ok (.slice (some ⟨w.heap.size, 0, none⟩) l.toNat c.toNat) (w.alloc (.cells (bvs (zs c.toNat)) 5)) := by
  obtain ⟨ht, i, z, hi, hz, hsz, hby, _⟩ := elemB_iff elem_22
  have hz2 : z = .int .u8 0 := by
    have h : (Try.prog.info? 5).bind (·.zero) = some (.int .u8 0) := by kernel_rfl
    rw [hi] at h
    simpa [hz] using h
  rw [run_make w 22 5 i z ht hi hz kl kc l c h0 hlc (by rw [hby]; omega) (by omega), hsz, Nat.mul_one, hz2, made_noughts]
/-- A new block within what has been laid. -/
theorem grow_split {w : World} {g : Laid} {b : Nat} {cs : Array Value} {t : TypeId} (h : w.heap.size ≤ b) (hb : blk (grow w g) b = some (.cells cs t (0, 0))) : ∃ ga gb, grow w g = grow ((grow w ga).alloc (.cells cs t)) gb ∧ b = w.heap.size + ga.n := by
  have hb' : (w.heap ++ g.objs)[b]? = some (.cells cs t (0, 0)) := hb
  rw [Array.getElem?_append, if_neg (by omega)] at hb'
  obtain ⟨hlt, hv⟩ := Array.getElem?_eq_some_iff.1 hb'
  obtain ⟨k, hk⟩ : ∃ k, b = w.heap.size + k := ⟨b - w.heap.size, by omega⟩
  subst hk
  rw [Nat.add_sub_cancel_left] at hb' hlt
  have hm : min k g.objs.size = k := by omega
  refine ⟨⟨g.objs.extract 0 k, 0⟩, ⟨g.objs.extract (k + 1) g.objs.size, g.drawn⟩, ?_, by simp [Laid.n, hm]⟩
  unfold grow World.alloc
  simp only
  congr 1
  apply Array.ext_getElem?
  intro i
  simp only [Array.getElem?_append, Array.getElem?_push, Array.size_push, Array.size_append, Array.size_extract, Array.getElem?_extract, Nat.sub_zero, hm]
  by_cases h1 : i < w.heap.size
  · rw [if_pos h1, if_pos (by omega), if_neg (by omega), if_pos h1]
  · rw [if_neg h1]
    by_cases h2 : i < w.heap.size + k
    · rw [if_pos (by omega), if_neg (by omega), if_neg h1, if_pos (by omega)]
      congr 1; omega
    · by_cases h3 : i = w.heap.size + k
      · subst h3
        rw [if_pos (by omega), if_pos rfl, Nat.add_sub_cancel_left, hb']
      · rw [if_neg (by omega)]
        by_cases h4 : i - w.heap.size < g.objs.size
        · rw [if_pos (by omega)]
          congr 1; omega
        · rw [if_neg (by omega), Array.getElem?_eq_none (by omega)]
theorem bytesAt_whole {w : World} {g n : Nat} {t : TypeId} {fr : Nat × Nat} {L : List UInt8} (h : blk w g = some (.cells (bvs L) t fr)) (hn : L.length = n) : BytesAt w (.slice (some ⟨g, 0, none⟩) n n) L :=
  bytesAt_blk h hn (Nat.le_refl _) fun i x hi => by rw [Nat.zero_add]; exact bvs_at hi
end Go.Proofs.Ytcjncidahjneaaa

namespace Go.Proofs.Ytcjncidahjneaaa
open Go.ChangeShapes Go.WideShapes Go.ChangeAt Go.RowKit
/-- What a copy's block holds. -/
def Kp (l : List UInt8) (cap : Nat) (cur : Array Value) : Prop := l.length + 2 ≤ cap ∧ cap ≤ maxLen ∧ cur.size = cap ∧ cur.toList.take (l.length + 2) = (l ++ [165, 90]).map bv
theorem Kp.bytes {l : List UInt8} {cap : Nat} {cur : Array Value} (h : Kp l cap cur) {w : World} {g : Nat} {t : TypeId} {fr : Nat × Nat} (hg : blk w g = some (.cells cur t fr)) : BytesAt w (.slice (some ⟨g, 0, none⟩) l.length cap) l := by
  obtain ⟨h1, h2, h3, h4⟩ := h
  refine ⟨_, cap, rfl, by omega, (fun h => by cases h), fun _ => ⟨g, 0, cur, _, _, rfl, hg, fun i x hi => ?_⟩⟩
  have h5 := congrArg (·[i]?) h4
  have hil : i < l.length := (List.getElem?_eq_some_iff.1 hi).1
  simp only [List.getElem?_take, List.getElem?_map] at h5
  rw [if_pos (by omega), List.getElem?_append_left hil, hi] at h5
  rw [Nat.zero_add]; simpa using h5
theorem copy_g (l : List UInt8) (v : Value) (w : World) (hv : BytesAt w v l) (hn : l.length ≤ 1000000000) : Calls Try.prog 18 #[v] w fun e w' =>
    ∃ ga gb cap cur, e = .returned (.slice (some ⟨w.heap.size + ga.n, 0, none⟩) l.length cap) ∧ Kp l cap cur ∧ w' = grow ((grow w ga).alloc (.cells cur 5)) gb := by
  refine (copy_any l v w hv hn).mono ?_
  rintro e w' ⟨g, cap, cur, rfl, h1, h2, h3, h4, h5, h6, h7⟩
  obtain ⟨gg, rfl⟩ := grow_of h7
  obtain ⟨ga, gb, he, rfl⟩ := grow_split h1 h4
  exact ⟨ga, gb, cap, cur, rfl, ⟨h2, h3, h5, h6⟩, he⟩
theorem kept_g (l : List UInt8) (cap : Nat) (cur : Array Value) (hK : Kp l cap cur) (g : Nat) (v : Value) (w : World) (hg : blk w g = some (.cells cur 5 (0, 0))) (hv : BytesAt w v l) (hn : l.length ≤ 1000000000) :
    Calls Try.prog 22 #[.slice (some ⟨g, 0, none⟩) l.length cap, v] w fun e w' => e = .returned (.bool true) ∧ Below w.heap.size w w' :=
  kept_any l g cap cur v w hg hK.2.2.1 hK.1 hK.2.2.2 hv hn hK.2.1
end Go.Proofs.Ytcjncidahjneaaa
